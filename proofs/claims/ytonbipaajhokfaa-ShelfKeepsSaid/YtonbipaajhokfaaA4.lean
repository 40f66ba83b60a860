/-
  Walk: spare.Encode.
-/
import Derived.Test.YtonbipaajhokfaaKA
import Derived.Test.YtonbipaajhokfaaShelf
set_option linter.unusedVariables false
set_option linter.unusedSimpArgs false
namespace Go.Proofs.Ytonbipaajhokfaa
open Go.RowKit Go.Proofs.YtonbipaajhokfaaW.PrintWords Go.Proofs.YtonbipaajhokfaaW.PrintLast Go.Proofs.YtonbipaajhokfaaW.PrintMore

theorem u64_same {n : Int} (h : 0 ≤ n) (h' : n < 4096) : IntKind.u64.wrap n = n := by
  rw [IntKind.wrap_u64]; omega

def trunkHead (next : Int) (n : Nat) : List UInt8 := 4 :: (be4 next ++ [by8 n])
def be4s (l : List Int) : List UInt8 := l.flatMap be4
def pad (s : List UInt8) : List UInt8 := s ++ List.replicate (232 - s.length) 0
def trunkPage (next : Int) (l : List Int) : List UInt8 := pad (trunkHead next l.length ++ be4s l)
def encOk (next : Int) (l : List Int) : Bool := (next == 0 || !oddB next) && decide (l.length ≤ 50) && !l.any oddB
def encB (next : Int) (l : List Int) : List UInt8 := if encOk next l then trunkPage next l else []
def encE (next : Int) (l : List Int) : Int := if encOk next l then 0 else 1

theorem be4s_length (l : List Int) : (be4s l).length = 4 * l.length := by
  induction l with
  | nil => rfl
  | cons x r ih => simp only [be4s, List.flatMap_cons, List.length_append, be4_length, List.length_cons] at ih ⊢; omega
theorem repeatL_zero (n : Nat) : Lib.repeatL [0] n = List.replicate n 0 := by
  induction n with
  | zero => rfl
  | succ n ih => simp only [Lib.repeatL, ih, List.replicate_succ]; rfl
theorem rep0_calls (n : Nat) (w : World) (h : n ≤ 232) : Calls Try.prog 38 #[.string { data := #[0] }, .int .i64 n] w fun e w' => e = .returned (.string (bs (List.replicate n 0))) ∧ Below w.heap.size w w' :=
  (Try.strings_Repeat _ _ _ (by omega) (by rw [show ({ data := #[0] } : ByteArray).size = 1 from rfl]; omega)).mono fun _ _ hh => ⟨hh.1.trans (by rw [show ({ data := #[0] } : ByteArray).data.toList = [0] from rfl, repeatL_zero]; rfl), hh.2⟩
theorem trunk_tail (next : Int) (l : List Int) (h : l.length ≤ 50) : trunkPage next l = (trunkHead next l.length ++ be4s l) ++ List.replicate (226 - 4 * l.length) 0 := by
  unfold trunkPage pad
  congr 2
  rw [List.length_append, be4s_length]
  simp only [trunkHead, List.length_cons, List.length_append, be4_length, List.length_nil]
  omega
theorem be4s_take_succ (l : List Int) (k : Nat) (h : k < l.length) : be4s (l.take (k + 1)) = be4s (l.take k) ++ be4 (l.getD k 0) := by
  unfold be4s; rw [List.take_succ_eq_append_getElem h, List.flatMap_append]; simp [h]
theorem any_no {l : List Int} (h : l.any oddB = false) (k : Nat) (hk : k < l.length) : 1 ≤ l.getD k 0 ∧ l.getD k 0 < 4096 := by
  have h1 := List.any_eq_false.1 h (l.getD k 0) (by simp [List.getD, hk])
  simp only [oddB, Bool.or_eq_true, decide_eq_true_eq] at h1
  omega
set_option maxHeartbeats 1000000 in
set_option maxRecDepth 100000 in
theorem encode_ok (next : Int) (A : Option Addr) (c : Nat) (l : List Int) (w : World) (hl : Kd.C (Kd.int .i64) w A l.length l) (hlc : l.length ≤ c)
    (hn0 : 0 ≤ next) (hn1 : next < 4096) (t0 : (next != 0) = false) (h50 : l.length ≤ 50) (hany : l.any oddB = false) :
    Calls Try.prog 12 #[.agg #[.int .i64 next, .slice A l.length c]] w fun e w' => e = .returned (.tuple #[.string (bs (trunkPage next l)), .int .i64 0]) ∧ Below w.heap.size w w' := by
  have HL := Aside0.mk hl
  have HANY := Aside0.mk hany
  clear hl
  have hu24 := Try.underlying24
  have t50 : decide ((50 : Int) < (l.length : Int)) = false := decide_eq_false (by omega)
  go_enter Try.func12, Try.ntmps12
  go_wp2_with (first | (go_at_call 36; with_reducible refine (containsOdd_calls _ _ _ _ ?_).mono ?_; (exact Kd.C_alloc HL.out _); rintro e w' ⟨rfl, rfl⟩; rw [HANY.out]))
  obtain ⟨w1, hw1⟩ : ∃ w1, w1 = w.alloc (.cells #[.int .i64 next, .slice A l.length c] 24) := ⟨_, rfl⟩
  rw [← hw1]
  have hB1 : Below w.heap.size w w1 := by rw [hw1]; exact below_alloc (Below.refl _ _) _
  have hblk : w1.heap[w.heap.size]? = some (.cells #[.int .i64 next, .slice A l.length c] 24 (0, 0)) := by rw [hw1]; exact heap_alloc_new w _
  have hsz : w.heap.size < w1.heap.size := by rw [hw1]; simp
  clear hw1
  obtain ⟨b, hb⟩ : ∃ b, b = w.heap.size := ⟨_, rfl⟩
  rw [← hb] at hblk hsz hB1 ⊢
  have hbs : w.heap.size ≤ b := by omega
  clear hb
  refine region_below w1.heap.size (Nat.le_refl _) (by kernel_rfl) (by kernel_rfl) ?_
  have hc0 : ∀ w', Below w1.heap.size w1 w' → w'.cell? ⟨b, 0, none⟩ = some (.int .i64 next) := fun w' h => (h.cell hsz).trans ((blk_cell hblk 0).trans rfl)
  have hc1 : ∀ w', Below w1.heap.size w1 w' → w'.cell? ⟨b, 1, none⟩ = some (.slice A l.length c) := fun w' h => (h.cell hsz).trans ((blk_cell hblk 1).trans rfl)
  have hs1 : (bs (be4 (IntKind.u64.wrap next))).size = 4 := bs_size _
  have hs2 : (bs [by8 (IntKind.u64.wrap l.length)]).size = 1 := bs_size _
  refine q_val rfl (v := ?_) (a' := ?_) ?_ ?_ ?_
  rotate_left
  rotate_left
  · intro w' hw'
    go_simp
    with_reducible rfl
  · simp only [Act.put, List.setIfInBounds_toArray, List.set_cons_zero, List.set_cons_succ]
    rfl
  refine q_val rfl (v := ?_) (a' := ?_) ?_ ?_ ?_
  rotate_left
  rotate_left
  · intro w' hw'
    have := hc0 w' hw'
    go_simp
    with_reducible rfl
  · simp only [Act.put, List.setIfInBounds_toArray, List.set_cons_zero, List.set_cons_succ]
    rfl
  refine q_val rfl (v := ?_) (a' := ?_) ?_ ?_ ?_
  rotate_left
  rotate_left
  · intro w' hw'
    go_simp
    with_reducible rfl
  · simp only [Act.put, List.setIfInBounds_toArray, List.set_cons_zero, List.set_cons_succ]
    rfl
  refine q_call rfl (v := .string (bs (be4 (IntKind.u64.wrap next)))) (a' := ?_) (f := 37) (args := #[.int .u64 (IntKind.u64.wrap next), .int .i64 4]) ?_ ?_ ?_ ?_
  rotate_left
  · intro w' hw'
    go_simp
  · intro w' hw'
    exact (fixed4_calls _ _).mono fun _ _ hh => ⟨hh.1, below_then hw' hw'.size hh.2⟩
  · simp only [Act.put, List.setIfInBounds_toArray, List.set_cons_zero, List.set_cons_succ]
    rfl
  refine q_val rfl (v := ?_) (a' := ?_) ?_ ?_ ?_
  rotate_left
  rotate_left
  · intro w' hw'
    go_simp
    with_reducible rfl
  · simp only [Act.put, List.setIfInBounds_toArray, List.set_cons_zero, List.set_cons_succ]
    rfl
  refine q_val rfl (v := ?_) (a' := ?_) ?_ ?_ ?_
  rotate_left
  rotate_left
  · intro w' hw'
    go_simp
    with_reducible rfl
  · simp only [Act.put, List.setIfInBounds_toArray, List.set_cons_zero, List.set_cons_succ]
    rfl
  refine q_val rfl (v := ?_) (a' := ?_) ?_ ?_ ?_
  rotate_left
  rotate_left
  · intro w' hw'
    have := hc1 w' hw'
    go_simp
    with_reducible rfl
  · simp only [Act.put, List.setIfInBounds_toArray, List.set_cons_zero, List.set_cons_succ]
    rfl
  refine q_val rfl (v := ?_) (a' := ?_) ?_ ?_ ?_
  rotate_left
  rotate_left
  · intro w' hw'
    go_simp
    with_reducible rfl
  · simp only [Act.put, List.setIfInBounds_toArray, List.set_cons_zero, List.set_cons_succ]
    rfl
  refine q_val rfl (v := ?_) (a' := ?_) ?_ ?_ ?_
  rotate_left
  rotate_left
  · intro w' hw'
    go_simp
    with_reducible rfl
  · simp only [Act.put, List.setIfInBounds_toArray, List.set_cons_zero, List.set_cons_succ]
    rfl
  refine q_call rfl (v := .string (bs [by8 (IntKind.u64.wrap l.length)])) (a' := ?_) (f := 37) (args := #[.int .u64 (IntKind.u64.wrap l.length), .int .i64 1]) ?_ ?_ ?_ ?_
  rotate_left
  · intro w' hw'
    go_simp
  · intro w' hw'
    exact (fixed1_calls _ _).mono fun _ _ hh => ⟨hh.1, below_then hw' hw'.size hh.2⟩
  · simp only [Act.put, List.setIfInBounds_toArray, List.set_cons_zero, List.set_cons_succ]
    rfl
  refine q_val rfl (v := ?_) (a' := ?_) ?_ ?_ ?_
  rotate_left
  rotate_left
  · intro w' hw'
    go_simp
    with_reducible rfl
  · simp only [Act.put, List.setIfInBounds_toArray, List.set_cons_zero, List.set_cons_succ]
    rfl
  refine q_val rfl (v := ?_) (a' := ?_) ?_ ?_ ?_
  rotate_left
  rotate_left
  · intro w' hw'
    go_simp
    with_reducible rfl
  · simp only [Act.put, List.setIfInBounds_toArray, List.set_cons_zero, List.set_cons_succ]
    rfl
  refine wpQuiet_nil ?_
  intro w2 hb2
  have hw0 : IntKind.u64.wrap next = next := u64_same hn0 hn1
  have hwl : IntKind.u64.wrap l.length = l.length := u64_same (by omega) (by omega)
  have e5 : ({ data := #[4] } : ByteArray) ++ bs (be4 (IntKind.u64.wrap next)) ++ bs [by8 (IntKind.u64.wrap l.length)] = bs (trunkHead next l.length) := by
    rw [hw0, hwl, show ({ data := #[4] } : ByteArray) = bs [4] from rfl, bs_append, bs_append]; rfl
  rw [e5]
  clear e5 hs1 hs2 hw0 hwl
  go_wp2
  go_loopw [5, 43] (fun s i wr => ∃ k : Nat, k ≤ l.length ∧ i = .int .i64 k ∧ s = .string (bs (trunkHead next l.length ++ be4s (l.take k))) ∧ Aside0 (Below w1.heap.size w1 wr)) (fun _ i _ => l.length - (intOf i).toNat)
  case atStart => exact ⟨0, Nat.zero_le _, rfl, by simp [be4s], ⟨hb2⟩⟩
  case round =>
    clear hc0 hc1
    obtain ⟨k, hk, rfl, rfl, HB⟩ := hrel
    have hlen := be4s_length (l.take k)
    rw [List.length_take_of_le hk] at hlen
    have hszs : (bs (trunkHead next l.length ++ be4s (l.take k))).size = 6 + 4 * k := by rw [bs_size, List.length_append, hlen]; rfl
    by_cases hlt : k < l.length
    · obtain ⟨ad, e1, hx⟩ := Kd.at_int HL.out (k : Int) (by omega) (by omega)
      cases e1
      rw [show rd l (k : Int) = l.getD k 0 from rfl, Int.toNat_natCast] at hx
      have HS := Aside0.mk (be4s_take_succ l k hlt)
      obtain ⟨x, hxd⟩ : ∃ x, x = l.getD k 0 := ⟨_, rfl⟩
      have hxb := any_no hany k hlt
      rw [← hxd] at hx HS hxb
      clear hxd
      have hx2 := (HB.out.cell (Nat.lt_of_lt_of_le (World.block_lt_of_cell? w _ hx) (Nat.le_trans hB1.size (Nat.le_refl _)))).trans ((hB1.cell (Nat.lt_of_lt_of_le (World.block_lt_of_cell? w _ hx) hbs)).trans hx)
      clear hx
      have hsx : (bs (be4 x)).size = 4 := bs_size _
      have hwx : IntKind.u64.wrap x = x := u64_same (by omega) (by omega)
      go_wp2_with (go_at_call 37; refine (fixed4_calls _ _).mono ?_; rintro e w' ⟨rfl, hb⟩)
      go_roundw
      case rel => exact ⟨k + 1, by omega, by go_num, by rw [HS.out, bs_append, List.append_assoc], ⟨below_then HB.out HB.out.size hb⟩⟩
      case measure => simp [intOf]; omega
    · have hke : k = l.length := by omega
      subst hke
      rw [List.take_length] at hszs ⊢
      have hr0 : (232 : Int) - (6 + 4 * (l.length : Int)) = ((226 - 4 * l.length : Nat) : Int) := by omega
      have hsr : (bs (List.replicate (226 - 4 * l.length) 0)).size = 226 - 4 * l.length := by rw [bs_size, List.length_replicate]
      go_wp2_with (go_at_call 38; refine (rep0_calls _ _ (by omega)).mono ?_; rintro e w' ⟨rfl, hb⟩)
      go_ret2
      refine ⟨?_, ?_⟩
      · rw [trunk_tail next l h50, ← bs_append]; rfl
      · exact (hB1.trans ((HB.out.mono (Nat.le_of_lt hsz)).trans (hb.mono (Nat.le_trans (Nat.le_of_lt hsz) HB.out.size)))).mono hbs
set_option maxHeartbeats 1000000 in
set_option maxRecDepth 100000 in
theorem encode_ok2 (next : Int) (A : Option Addr) (c : Nat) (l : List Int) (w : World) (hl : Kd.C (Kd.int .i64) w A l.length l) (hlc : l.length ≤ c)
    (hn0 : 0 ≤ next) (hn1 : next < 4096) (t0 : (next != 0) = true) (hodd : oddB next = false) (h50 : l.length ≤ 50) (hany : l.any oddB = false) :
    Calls Try.prog 12 #[.agg #[.int .i64 next, .slice A l.length c]] w fun e w' => e = .returned (.tuple #[.string (bs (trunkPage next l)), .int .i64 0]) ∧ Below w.heap.size w w' := by
  have HL := Aside0.mk hl
  have HODD := Aside0.mk hodd
  have HANY := Aside0.mk hany
  clear hl
  have hu24 := Try.underlying24
  have t50 : decide ((50 : Int) < (l.length : Int)) = false := decide_eq_false (by omega)
  go_enter Try.func12, Try.ntmps12
  go_wp2_with (first | (go_at_call 36; with_reducible refine (containsOdd_calls _ _ _ _ ?_).mono ?_; (exact Kd.C_alloc HL.out _); rintro e w' ⟨rfl, rfl⟩; rw [HANY.out]) | (go_at_call 35; with_reducible refine (odd_calls _ _).mono ?_; rintro e w' ⟨rfl, rfl⟩; rw [HODD.out]))
  obtain ⟨w1, hw1⟩ : ∃ w1, w1 = w.alloc (.cells #[.int .i64 next, .slice A l.length c] 24) := ⟨_, rfl⟩
  rw [← hw1]
  have hB1 : Below w.heap.size w w1 := by rw [hw1]; exact below_alloc (Below.refl _ _) _
  have hblk : w1.heap[w.heap.size]? = some (.cells #[.int .i64 next, .slice A l.length c] 24 (0, 0)) := by rw [hw1]; exact heap_alloc_new w _
  have hsz : w.heap.size < w1.heap.size := by rw [hw1]; simp
  clear hw1
  obtain ⟨b, hb⟩ : ∃ b, b = w.heap.size := ⟨_, rfl⟩
  rw [← hb] at hblk hsz hB1 ⊢
  have hbs : w.heap.size ≤ b := by omega
  clear hb
  refine region_below w1.heap.size (Nat.le_refl _) (by kernel_rfl) (by kernel_rfl) ?_
  have hc0 : ∀ w', Below w1.heap.size w1 w' → w'.cell? ⟨b, 0, none⟩ = some (.int .i64 next) := fun w' h => (h.cell hsz).trans ((blk_cell hblk 0).trans rfl)
  have hc1 : ∀ w', Below w1.heap.size w1 w' → w'.cell? ⟨b, 1, none⟩ = some (.slice A l.length c) := fun w' h => (h.cell hsz).trans ((blk_cell hblk 1).trans rfl)
  have hs1 : (bs (be4 (IntKind.u64.wrap next))).size = 4 := bs_size _
  have hs2 : (bs [by8 (IntKind.u64.wrap l.length)]).size = 1 := bs_size _
  refine q_val rfl (v := ?_) (a' := ?_) ?_ ?_ ?_
  rotate_left
  rotate_left
  · intro w' hw'
    go_simp
    with_reducible rfl
  · simp only [Act.put, List.setIfInBounds_toArray, List.set_cons_zero, List.set_cons_succ]
    rfl
  refine q_val rfl (v := ?_) (a' := ?_) ?_ ?_ ?_
  rotate_left
  rotate_left
  · intro w' hw'
    have := hc0 w' hw'
    go_simp
    with_reducible rfl
  · simp only [Act.put, List.setIfInBounds_toArray, List.set_cons_zero, List.set_cons_succ]
    rfl
  refine q_val rfl (v := ?_) (a' := ?_) ?_ ?_ ?_
  rotate_left
  rotate_left
  · intro w' hw'
    go_simp
    with_reducible rfl
  · simp only [Act.put, List.setIfInBounds_toArray, List.set_cons_zero, List.set_cons_succ]
    rfl
  refine q_call rfl (v := .string (bs (be4 (IntKind.u64.wrap next)))) (a' := ?_) (f := 37) (args := #[.int .u64 (IntKind.u64.wrap next), .int .i64 4]) ?_ ?_ ?_ ?_
  rotate_left
  · intro w' hw'
    go_simp
  · intro w' hw'
    exact (fixed4_calls _ _).mono fun _ _ hh => ⟨hh.1, below_then hw' hw'.size hh.2⟩
  · simp only [Act.put, List.setIfInBounds_toArray, List.set_cons_zero, List.set_cons_succ]
    rfl
  refine q_val rfl (v := ?_) (a' := ?_) ?_ ?_ ?_
  rotate_left
  rotate_left
  · intro w' hw'
    go_simp
    with_reducible rfl
  · simp only [Act.put, List.setIfInBounds_toArray, List.set_cons_zero, List.set_cons_succ]
    rfl
  refine q_val rfl (v := ?_) (a' := ?_) ?_ ?_ ?_
  rotate_left
  rotate_left
  · intro w' hw'
    go_simp
    with_reducible rfl
  · simp only [Act.put, List.setIfInBounds_toArray, List.set_cons_zero, List.set_cons_succ]
    rfl
  refine q_val rfl (v := ?_) (a' := ?_) ?_ ?_ ?_
  rotate_left
  rotate_left
  · intro w' hw'
    have := hc1 w' hw'
    go_simp
    with_reducible rfl
  · simp only [Act.put, List.setIfInBounds_toArray, List.set_cons_zero, List.set_cons_succ]
    rfl
  refine q_val rfl (v := ?_) (a' := ?_) ?_ ?_ ?_
  rotate_left
  rotate_left
  · intro w' hw'
    go_simp
    with_reducible rfl
  · simp only [Act.put, List.setIfInBounds_toArray, List.set_cons_zero, List.set_cons_succ]
    rfl
  refine q_val rfl (v := ?_) (a' := ?_) ?_ ?_ ?_
  rotate_left
  rotate_left
  · intro w' hw'
    go_simp
    with_reducible rfl
  · simp only [Act.put, List.setIfInBounds_toArray, List.set_cons_zero, List.set_cons_succ]
    rfl
  refine q_call rfl (v := .string (bs [by8 (IntKind.u64.wrap l.length)])) (a' := ?_) (f := 37) (args := #[.int .u64 (IntKind.u64.wrap l.length), .int .i64 1]) ?_ ?_ ?_ ?_
  rotate_left
  · intro w' hw'
    go_simp
  · intro w' hw'
    exact (fixed1_calls _ _).mono fun _ _ hh => ⟨hh.1, below_then hw' hw'.size hh.2⟩
  · simp only [Act.put, List.setIfInBounds_toArray, List.set_cons_zero, List.set_cons_succ]
    rfl
  refine q_val rfl (v := ?_) (a' := ?_) ?_ ?_ ?_
  rotate_left
  rotate_left
  · intro w' hw'
    go_simp
    with_reducible rfl
  · simp only [Act.put, List.setIfInBounds_toArray, List.set_cons_zero, List.set_cons_succ]
    rfl
  refine q_val rfl (v := ?_) (a' := ?_) ?_ ?_ ?_
  rotate_left
  rotate_left
  · intro w' hw'
    go_simp
    with_reducible rfl
  · simp only [Act.put, List.setIfInBounds_toArray, List.set_cons_zero, List.set_cons_succ]
    rfl
  refine wpQuiet_nil ?_
  intro w2 hb2
  have hw0 : IntKind.u64.wrap next = next := u64_same hn0 hn1
  have hwl : IntKind.u64.wrap l.length = l.length := u64_same (by omega) (by omega)
  have e5 : ({ data := #[4] } : ByteArray) ++ bs (be4 (IntKind.u64.wrap next)) ++ bs [by8 (IntKind.u64.wrap l.length)] = bs (trunkHead next l.length) := by
    rw [hw0, hwl, show ({ data := #[4] } : ByteArray) = bs [4] from rfl, bs_append, bs_append]; rfl
  rw [e5]
  clear e5 hs1 hs2 hw0 hwl
  go_wp2
  go_loopw [5, 43] (fun s i wr => ∃ k : Nat, k ≤ l.length ∧ i = .int .i64 k ∧ s = .string (bs (trunkHead next l.length ++ be4s (l.take k))) ∧ Aside0 (Below w1.heap.size w1 wr)) (fun _ i _ => l.length - (intOf i).toNat)
  case atStart => exact ⟨0, Nat.zero_le _, rfl, by simp [be4s], ⟨hb2⟩⟩
  case round =>
    clear hc0 hc1
    obtain ⟨k, hk, rfl, rfl, HB⟩ := hrel
    have hlen := be4s_length (l.take k)
    rw [List.length_take_of_le hk] at hlen
    have hszs : (bs (trunkHead next l.length ++ be4s (l.take k))).size = 6 + 4 * k := by rw [bs_size, List.length_append, hlen]; rfl
    by_cases hlt : k < l.length
    · obtain ⟨ad, e1, hx⟩ := Kd.at_int HL.out (k : Int) (by omega) (by omega)
      cases e1
      rw [show rd l (k : Int) = l.getD k 0 from rfl, Int.toNat_natCast] at hx
      have HS := Aside0.mk (be4s_take_succ l k hlt)
      obtain ⟨x, hxd⟩ : ∃ x, x = l.getD k 0 := ⟨_, rfl⟩
      have hxb := any_no hany k hlt
      rw [← hxd] at hx HS hxb
      clear hxd
      have hx2 := (HB.out.cell (Nat.lt_of_lt_of_le (World.block_lt_of_cell? w _ hx) (Nat.le_trans hB1.size (Nat.le_refl _)))).trans ((hB1.cell (Nat.lt_of_lt_of_le (World.block_lt_of_cell? w _ hx) hbs)).trans hx)
      clear hx
      have hsx : (bs (be4 x)).size = 4 := bs_size _
      have hwx : IntKind.u64.wrap x = x := u64_same (by omega) (by omega)
      go_wp2_with (go_at_call 37; refine (fixed4_calls _ _).mono ?_; rintro e w' ⟨rfl, hb⟩)
      go_roundw
      case rel => exact ⟨k + 1, by omega, by go_num, by rw [HS.out, bs_append, List.append_assoc], ⟨below_then HB.out HB.out.size hb⟩⟩
      case measure => simp [intOf]; omega
    · have hke : k = l.length := by omega
      subst hke
      rw [List.take_length] at hszs ⊢
      have hr0 : (232 : Int) - (6 + 4 * (l.length : Int)) = ((226 - 4 * l.length : Nat) : Int) := by omega
      have hsr : (bs (List.replicate (226 - 4 * l.length) 0)).size = 226 - 4 * l.length := by rw [bs_size, List.length_replicate]
      go_wp2_with (go_at_call 38; refine (rep0_calls _ _ (by omega)).mono ?_; rintro e w' ⟨rfl, hb⟩)
      go_ret2
      refine ⟨?_, ?_⟩
      · rw [trunk_tail next l h50, ← bs_append]; rfl
      · exact (hB1.trans ((HB.out.mono (Nat.le_of_lt hsz)).trans (hb.mono (Nat.le_trans (Nat.le_of_lt hsz) HB.out.size)))).mono hbs

set_option maxHeartbeats 1000000 in
set_option maxRecDepth 100000 in
theorem encode_bad1 (next : Int) (A : Option Addr) (c : Nat) (l : List Int) (w : World) (t0 : (next != 0) = true) (hodd : oddB next = true) :
    Calls Try.prog 12 #[.agg #[.int .i64 next, .slice A l.length c]] w fun e w' => e = .returned (.tuple #[.string (bs []), .int .i64 1]) ∧ Below w.heap.size w w' := by
  have HODD := Aside0.mk hodd
  have hu24 := Try.underlying24
  go_enter Try.func12, Try.ntmps12
  go_wp2_with (first | (go_at_call 35; with_reducible refine (odd_calls _ _).mono ?_; rintro e w' ⟨rfl, rfl⟩; rw [HODD.out]))
  go_ret2
  exact ⟨rfl, below_alloc (Below.refl _ _) _⟩
set_option maxHeartbeats 1000000 in
set_option maxRecDepth 100000 in
theorem encode_bad2 (next : Int) (A : Option Addr) (c : Nat) (l : List Int) (w : World) (h : (next != 0) = false ∨ ((next != 0) = true ∧ oddB next = false)) (h50 : 50 < l.length) :
    Calls Try.prog 12 #[.agg #[.int .i64 next, .slice A l.length c]] w fun e w' => e = .returned (.tuple #[.string (bs []), .int .i64 1]) ∧ Below w.heap.size w w' := by
  have t50 : decide ((50 : Int) < (l.length : Int)) = true := decide_eq_true (by omega)
  have hu24 := Try.underlying24
  rcases h with t0 | ⟨t0, hodd⟩
  · go_enter Try.func12, Try.ntmps12
    go_wp2
    go_ret2
    exact ⟨rfl, below_alloc (Below.refl _ _) _⟩
  · have HODD := Aside0.mk hodd
    go_enter Try.func12, Try.ntmps12
    go_wp2_with (first | (go_at_call 35; with_reducible refine (odd_calls _ _).mono ?_; rintro e w' ⟨rfl, rfl⟩; rw [HODD.out]))
    go_ret2
    exact ⟨rfl, below_alloc (Below.refl _ _) _⟩
set_option maxHeartbeats 1000000 in
set_option maxRecDepth 100000 in
theorem encode_bad3 (next : Int) (A : Option Addr) (c : Nat) (l : List Int) (w : World) (hl : Kd.C (Kd.int .i64) w A l.length l) (h : (next != 0) = false ∨ ((next != 0) = true ∧ oddB next = false)) (h50 : l.length ≤ 50) (hany : l.any oddB = true) :
    Calls Try.prog 12 #[.agg #[.int .i64 next, .slice A l.length c]] w fun e w' => e = .returned (.tuple #[.string (bs []), .int .i64 1]) ∧ Below w.heap.size w w' := by
  have t50 : decide ((50 : Int) < (l.length : Int)) = false := decide_eq_false (by omega)
  have HL := Aside0.mk hl
  have HANY := Aside0.mk hany
  clear hl
  have hu24 := Try.underlying24
  rcases h with t0 | ⟨t0, hodd⟩
  · go_enter Try.func12, Try.ntmps12
    go_wp2_with (first | (go_at_call 36; with_reducible refine (containsOdd_calls _ _ _ _ ?_).mono ?_; (exact Kd.C_alloc HL.out _); rintro e w' ⟨rfl, rfl⟩; rw [HANY.out]))
    go_ret2
    exact ⟨rfl, below_alloc (Below.refl _ _) _⟩
  · have HODD := Aside0.mk hodd
    go_enter Try.func12, Try.ntmps12
    go_wp2_with (first | (go_at_call 36; with_reducible refine (containsOdd_calls _ _ _ _ ?_).mono ?_; (exact Kd.C_alloc HL.out _); rintro e w' ⟨rfl, rfl⟩; rw [HANY.out]) | (go_at_call 35; with_reducible refine (odd_calls _ _).mono ?_; rintro e w' ⟨rfl, rfl⟩; rw [HODD.out]))
    go_ret2
    exact ⟨rfl, below_alloc (Below.refl _ _) _⟩

theorem encode_calls (next : Int) (A : Option Addr) (c : Nat) (l : List Int) (w : World) (hl : Kd.C (Kd.int .i64) w A l.length l) (hlc : l.length ≤ c) :
    Calls Try.prog 12 #[.agg #[.int .i64 next, .slice A l.length c]] w fun e w' => e = .returned (.tuple #[.string (bs (encB next l)), .int .i64 (encE next l)]) ∧ Below w.heap.size w w' := by
  unfold encB encE
  by_cases h0 : next = 0 ∨ oddB next = false
  · have hd : (next != 0) = false ∨ ((next != 0) = true ∧ oddB next = false) := by
      by_cases e : next = 0
      · left; simp [e]
      · right; exact ⟨by simp [e], h0.resolve_left e⟩
    by_cases h50 : l.length ≤ 50
    · cases hany : l.any oddB with
      | true =>
        have : encOk next l = false := by simp [encOk, hany]
        rw [this]
        exact encode_bad3 next A c l w hl hd h50 hany
      | false =>
        have : encOk next l = true := by
          simp only [encOk, hany, h50]
          rcases h0 with h0 | h0 <;> simp [h0]
        rw [this]
        rcases hd with t0 | ⟨t0, hodd⟩
        · have e : next = 0 := by simpa using t0
          exact encode_ok next A c l w hl hlc (by omega) (by omega) t0 h50 hany
        · have hb : 1 ≤ next ∧ next < 4096 := by
            simp only [oddB, Bool.or_eq_false_iff, decide_eq_false_iff_not] at hodd
            omega
          exact encode_ok2 next A c l w hl hlc (by omega) (by omega) t0 hodd h50 hany
    · have : encOk next l = false := by simp [encOk, h50]
      rw [this]
      exact encode_bad2 next A c l w hd (by omega)
  · have h1 : next ≠ 0 := fun e => h0 (.inl e)
    have h2 : oddB next = true := by
      cases h : oddB next with
      | true => rfl
      | false => exact absurd (.inr h) h0
    have : encOk next l = false := by simp [encOk, h1, h2]
    rw [this]
    exact encode_bad1 next A c l w (by simp [h1]) h2
end Go.Proofs.Ytonbipaajhokfaa
