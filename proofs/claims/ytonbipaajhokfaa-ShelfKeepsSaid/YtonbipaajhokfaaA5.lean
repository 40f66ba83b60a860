/-
  Walks: spare.Decode and its closure.
-/
import Derived.Test.YtonbipaajhokfaaA4
set_option linter.unusedVariables false
set_option linter.unusedSimpArgs false
namespace Go.Proofs.Ytonbipaajhokfaa
open Go.RowKit Go.Proofs.YtonbipaajhokfaaW.PrintWords Go.Proofs.YtonbipaajhokfaaW.PrintLast Go.Proofs.YtonbipaajhokfaaW.PrintMore

attribute [local go_sem] max2_int min2_int max_two min_two max_three min_three max_four min_four
/-- The number in four bytes at a place. -/
def rd4 (s : List UInt8) (i : Nat) : Int := beV ((s.drop i).take 4)

theorem byte_at (s : ByteArray) (i : Nat) (h : i < s.size) : s.data.toList.getD i 0 = s[i]'h := by
  have h' : i < s.data.toList.length := by rw [data_length]; exact h
  simp [List.getD_eq_getElem?_getD, List.getElem?_eq_getElem h']
  rfl

theorem extract_list (s : ByteArray) (a b : Nat) : (s.extract a b).data.toList = (s.data.toList.drop a).take (b - a) := by
  rw [ByteArray.data_extract, Array.toList_extract, List.extract_eq_take_drop]

set_option maxHeartbeats 1000000 in
theorem at_calls (pb : Nat) (s : ByteArray) (i : Nat) (w : World) (hp : w.cell? ⟨pb, 0, none⟩ = some (.string s)) (hs : s.size = 232) (h1 : i ≤ 228) :
    Calls Try.prog 40 #[.int .i64 i, .pointer (some ⟨pb, 0, none⟩)] w fun e w' => e = .returned (.int .i64 (rd4 s.data.toList i)) ∧ Below w.heap.size w w' := by
  have hx : (s.extract i (i + 4)).size = 4 := by rw [ByteArray.size_extract]; omega
  have HB := Aside0.mk (beV_bd 4 ((s.data.toList.drop i).take 4) (by rw [List.length_take, List.length_drop, data_length]; omega))
  go_enter Try.func40, Try.ntmps40
  go_wp2_with (go_at_call 41; refine (unfixed_ok _ _ (by omega) (by omega)).mono ?_; rintro e w' ⟨rfl, hb⟩)
  go_ret
  refine ⟨?_, hb⟩
  have h2 := HB.out
  rw [show (256 : Int) ^ 4 = 4294967296 from rfl] at h2
  have e2 : wrap64 (rd4 s.data.toList i) = rd4 s.data.toList i := by unfold wrap64; unfold rd4; omega
  show Ending.returned (Value.int .i64 (wrap64 (rd4 s.data.toList i))) = _
  rw [e2]

def decN (s : List UInt8) : Int := rd4 s 1
def decC (s : List UInt8) : Nat := min (s.getD 5 0).toNat 50
def decL (s : List UInt8) : List Int := (List.range (decC s)).map fun i => rd4 s (6 + 4 * i)
def decs (s : List UInt8) (k : Nat) : List Int := (List.range k).map fun i => rd4 s (6 + 4 * i)
theorem decs_length (s : List UInt8) (k : Nat) : (decs s k).length = k := by simp [decs]
theorem decs_succ (s : List UInt8) (k : Nat) : decs s (k + 1) = decs s k ++ [rd4 s (6 + 4 * k)] := by simp [decs, List.range_succ]
theorem info3 : (Try.prog.info? 3).map (fun i => (i.zero, i.size, i.bytes)) = some (some (.int .i64 0), 1, 8) := by kernel_rfl
def decOk (s : List UInt8) : Bool := encOk (decN s) (decL s) && (trunkPage (decN s) (decL s) == s)

/-- What Decode answers: the next trunk, the list, the error. -/
def decN1 (s : List UInt8) : Int := if s.length = 232 ∧ decOk s = true then decN s else 0
def decL1 (s : List UInt8) : List Int := if s.length = 232 ∧ decOk s = true then decL s else []
def decE1 (s : List UInt8) : Int := if s.length = 232 then (if decOk s = true then 0 else 4) else 1

set_option maxHeartbeats 1000000 in
set_option maxRecDepth 100000 in
theorem decode_short (s : ByteArray) (w : World) (hs : s.size ≠ 232) :
    Calls Try.prog 14 #[.string s] w fun e w' => ∃ v, e = .returned (.tuple #[.agg #[.int .i64 0, v], .int .i64 1]) ∧ Kd.R (Kd.int .i64) 3 w' w.heap.size (fun _ => True) v [] ∧ Below w.heap.size w w' := by
  have t1 : ((s.size : Int) != 232) = true := by simp; omega
  have hu24 := Try.underlying24
  go_enter Try.func14, Try.ntmps14
  go_wp2
  refine bodyPost_ret (v := .tuple #[.agg #[.int .i64 0, .slice none 0 0], .int .i64 1]) (by simp [results, Try.results14, go_sem]) rfl ⟨_, rfl, Kd.R_nil _ _ _ _ _, ?_⟩
  exact below_alloc (below_alloc (Below.refl _ _) _) _

set_option maxHeartbeats 1000000 in
set_option maxRecDepth 100000 in
theorem decode_full (s : ByteArray) (w : World) (hs : s.size = 232) :
    Calls Try.prog 14 #[.string s] w fun e w' => ∃ v, e = .returned (.tuple #[.agg #[.int .i64 (decN1 s.data.toList), v], .int .i64 (decE1 s.data.toList)]) ∧
      Kd.R (Kd.int .i64) 3 w' w.heap.size (fun _ => True) v (decL1 s.data.toList) ∧ Below w.heap.size w w' := by
  have t1 : ((s.size : Int) != 232) = false := by simp; omega
  have hu24 := Try.underlying24
  go_enter Try.func14, Try.ntmps14
  go_wp2_with fail
  obtain ⟨w1, hw1⟩ : ∃ w1, w1 = (w.alloc (.cells #[.string s] 9)).alloc (.cells #[.int .i64 0, .slice none 0 0] 24) := ⟨_, rfl⟩
  rw [← hw1]
  have hB1 : Below w.heap.size w w1 := by rw [hw1]; exact below_alloc (below_alloc (Below.refl _ _) _) _
  have h0 : w1.heap[w.heap.size]? = some (.cells #[.string s] 9 (0, 0)) := by rw [hw1]; exact blk_alloc (blk_new w _) _
  have h1 : w1.heap[w.heap.size + 1]? = some (.cells #[.int .i64 0, .slice none 0 0] 24 (0, 0)) := by rw [hw1]; have := blk_new (w.alloc (.cells #[.string s] 9)) (.cells #[.int .i64 0, .slice none 0 0] 24); simpa using this
  have hsz : w.heap.size + 1 < w1.heap.size := by rw [hw1]; simp
  clear hw1
  obtain ⟨b, hb⟩ : ∃ b, b = w.heap.size := ⟨_, rfl⟩
  rw [← hb] at hB1 h0 h1 hsz ⊢
  have hbs : w.heap.size ≤ b := by omega
  clear hb
  have HB1 := Aside0.mk hB1
  have H0 := Aside0.mk h0
  have H1 := Aside0.mk h1
  clear hB1 h0 h1
  refine (at_calls b s 1 w1 ((blk_cell H0.out 0).trans rfl) hs (by omega)).mono ?_
  rintro e w2 ⟨rfl, hb2⟩
  replace H0 := Aside0.mk (blk_below H0.out hb2)
  replace H1 := Aside0.mk (blk_below H1.out hb2)
  replace HB1 := Aside0.mk (below_then HB1.out (by omega) hb2)
  have hsz2 : b + 1 < w2.heap.size := Nat.lt_of_lt_of_le hsz hb2.size
  clear hb2 hsz
  have hp : ∀ o, (w2.alloc o).cell? ⟨b, 0, none⟩ = some (.string s) := fun o => (blk_cell (blk_alloc H0.out o) 0).trans rfl
  obtain ⟨c5, hc5, hc5b, hC⟩ : ∃ c5 : Nat, (∀ h : 5 < s.size, (s[5]'h).toNat = c5) ∧ c5 < 256 ∧ decC s.data.toList = min c5 50 :=
    ⟨(s[5]'(by omega)).toNat, fun _ => rfl, (s[5]'(by omega)).toNat_lt, by unfold decC; rw [byte_at s 5 (by omega)]⟩
  obtain ⟨C, hCd⟩ : ∃ C, C = decC s.data.toList := ⟨_, rfl⟩
  rw [← hCd] at hC
  have HCd := Aside0.mk hCd
  clear hCd
  have hC50 : C ≤ 50 := by omega
  have hmn : (if (50 : Int) < (c5 : Int) then (50 : Int) else (c5 : Int)) = (C : Int) := by split <;> omega
  clear hC
  go_wp2_with fail
  clear hmn hc5 hp
  obtain ⟨w3, hw3⟩ : ∃ w3, w3 = w2.alloc (.cells #[.int .i64 (rd4 s.data.toList 1), .slice none 0 0] 24) := ⟨_, rfl⟩
  rw [← hw3]
  have H5 := Aside0.mk (show w3.heap[w2.heap.size]? = some (.cells #[.int .i64 (rd4 s.data.toList 1), .slice none 0 0] 24 (0, 0)) by rw [hw3]; exact blk_new w2 _)
  replace H0 := Aside0.mk (show w3.heap[b]? = some (.cells #[.string s] 9 (0, 0)) by rw [hw3]; exact blk_alloc H0.out _)
  replace H1 := Aside0.mk (show w3.heap[b + 1]? = some (.cells #[.int .i64 0, .slice none 0 0] 24 (0, 0)) by rw [hw3]; exact blk_alloc H1.out _)
  replace HB1 := Aside0.mk (show Below b w w3 by rw [hw3]; exact HB1.out.alloc (by omega) _)
  have hsz3 : w2.heap.size < w3.heap.size := by rw [hw3]; simp
  clear hw3
  obtain ⟨g, hg⟩ : ∃ g, g = w2.heap.size := ⟨_, rfl⟩
  rw [← hg] at H5 hsz3 hsz2 ⊢
  clear hg
  go_loopw [21] (fun i wr => ∃ (k : Nat) (v : Value), k ≤ C ∧ i = .int .i64 k ∧ Aside0 (wr.heap[b]? = some (.cells #[.string s] 9 (0, 0))) ∧ Aside0 (wr.heap[b + 1]? = some (.cells #[.int .i64 0, .slice none 0 0] 24 (0, 0))) ∧
      Aside0 (wr.heap[g]? = some (.cells #[.int .i64 (rd4 s.data.toList 1), v] 24 (0, 0))) ∧ Aside0 (Kd.R (Kd.int .i64) 3 wr (g + 1) (fun _ => True) v (decs s.data.toList k)) ∧ Aside0 (g + 1 ≤ wr.heap.size) ∧ Aside0 (Below b w wr)) (fun i _ => C - (intOf i).toNat)
  case atStart => exact ⟨0, .slice none 0 0, Nat.zero_le _, rfl, H0, H1, H5, ⟨Kd.R_nil _ _ _ _ _⟩, ⟨hsz3⟩, HB1⟩
  case round =>
    clear H0 H1 H5 HB1 hsz3
    obtain ⟨k, v, hk, rfl, H0, H1, H5, HR, HZ, HBw⟩ := hrel
    by_cases hlt : k < C
    · have hk6 : (6 + 4 * (k : Int)) = ((6 + 4 * k : Nat) : Int) := by omega
      have HK6 := Aside0.mk hk6
      clear hk6
      have hw4 : wrap64 (4 * (k : Int)) = 4 * (k : Int) := by unfold wrap64; omega
      have hw6 : wrap64 (6 + 4 * (k : Int)) = 6 + 4 * (k : Int) := by unfold wrap64; omega
      have HW4 := Aside0.mk hw4
      have HW6 := Aside0.mk hw6
      clear hw4 hw6
      go_wp2_with fail
      have hw4 := HW4.out
      have hw6 := HW6.out
      replace H0 := Aside0.mk (blk_drew H0.out)
      replace H1 := Aside0.mk (blk_drew H1.out)
      replace H5 := Aside0.mk (blk_drew H5.out)
      replace HR := Aside0.mk (Kd.R_drew HR.out)
      replace HZ := Aside0.mk (show g + 1 ≤ wr.drew.heap.size from HZ.out)
      replace HBw := Aside0.mk (below_drew HBw.out)
      refine start_ (n := 11) (S := fun w' => w'.cell? ⟨g, 1, none⟩ = some v) (ds := [10]) #[false, false, false, false, false, false, false, false, false, false, false] (by kernel_rfl) rfl rfl ((blk_cell H5.out 1).trans rfl) (fun hHeld => ?_)
      generalize wr.drew = wd at H0 H1 H5 HR HZ HBw hHeld ⊢
      refine pure_ (i := 0) (N := some 24) (v := ?_) (a' := ?_) #[true, false, false, false, false, false, false, false, false, false, false] rfl rfl (by kernel_rfl) (fun _ _ _ h => h) (Or.inl ⟨by rfl, ?_⟩) ?_ ?_
      rotate_left
      · intro w'
        go_simp
        with_reducible rfl
      rotate_left
      · simp only [Act.put, List.setIfInBounds_toArray, List.set_cons_zero, List.set_cons_succ]
        rfl
      refine pure_ (i := 2) (N := some 26) (v := ?_) (a' := ?_) #[true, false, true, false, false, false, false, false, false, false, false] rfl rfl (by kernel_rfl) (fun _ _ _ h => h) (Or.inl ⟨by rfl, ?_⟩) ?_ ?_
      rotate_left
      · intro w'
        go_simp
        with_reducible rfl
      rotate_left
      · simp only [Act.put, List.setIfInBounds_toArray, List.set_cons_zero, List.set_cons_succ]
        rfl
      refine pure_ (i := 3) (N := some 27) (v := ?_) (a' := ?_) #[true, false, true, true, false, false, false, false, false, false, false] rfl rfl (by kernel_rfl) (fun _ _ _ h => h) (Or.inl ⟨by rfl, ?_⟩) ?_ ?_
      rotate_left
      · intro w'
        go_simp
        with_reducible rfl
      rotate_left
      · simp only [Act.put, List.setIfInBounds_toArray, List.set_cons_zero, List.set_cons_succ]
        rfl
      refine pure_ (i := 4) (N := some 28) (v := ?_) (a' := ?_) #[true, false, true, true, true, false, false, false, false, false, false] rfl rfl (by kernel_rfl) (fun _ _ _ h => h) (Or.inl ⟨by rfl, ?_⟩) ?_ ?_
      rotate_left
      · intro w'
        go_simp
        with_reducible rfl
      rotate_left
      · simp only [Act.put, List.setIfInBounds_toArray, List.set_cons_zero, List.set_cons_succ, i64_w, hw4]
        rfl
      refine pure_ (i := 5) (N := some 29) (v := ?_) (a' := ?_) #[true, false, true, true, true, true, false, false, false, false, false] rfl rfl (by kernel_rfl) (fun _ _ _ h => h) (Or.inl ⟨by rfl, ?_⟩) ?_ ?_
      rotate_left
      · intro w'
        go_simp
        with_reducible rfl
      rotate_left
      · simp only [Act.put, List.setIfInBounds_toArray, List.set_cons_zero, List.set_cons_succ, i64_w, hw6]
        rfl
      refine take_ (i := 1) (N := some 25) (v := ?_) (a' := ?_) #[true, true, true, true, true, true, false, false, false, false, false] rfl rfl (by kernel_rfl) (fun _ _ _ h => h) (Or.inl ⟨by rfl, ?_⟩) hHeld ?_ ?_
      rotate_left
      · rintro w' s1
        go_simp
        with_reducible rfl
      rotate_left
      · simp only [Act.put, List.setIfInBounds_toArray, List.set_cons_zero, List.set_cons_succ]
        rfl
      refine one_ (i := 6) (N := some 30) #[true, true, true, true, true, true, true, false, false, false, false] rfl rfl (by kernel_rfl) (by decide) (fun K hK => ?_)
      refine call_ 40 #[.int .i64 (6 + 4 * (k : Int)), .pointer (some ⟨b, 0, none⟩)] (by rfl) rfl (by go_simp) ?_
      rw [HK6.out]
      refine (at_calls b s (6 + 4 * k) _ ((blk_cell H0.out 0).trans rfl) hs (by omega)).mono ?_
      rintro e w4 ⟨rfl, hb4⟩
      refine ⟨_, rfl, ?_⟩
      have H0' := Aside0.mk (blk_below H0.out hb4)
      have H1' := Aside0.mk (blk_below H1.out hb4)
      have H5' := Aside0.mk (blk_below H5.out hb4)
      have HR' := Aside0.mk (Kd.R_below HR.out hb4)
      have HZ' := Aside0.mk (Nat.le_trans HZ.out hb4.size)
      have HB' := Aside0.mk (below_then HBw.out (Nat.le_trans (by omega) HZ.out) hb4)
      clear H0 H1 H5 HR HZ HBw hb4
      refine hK.out _ _ ((blk_cell H5'.out 1).trans rfl) (fun hHeld => ?_)
      clear hK K
      refine norm_ (a' := ?_) ?_ ?_
      rotate_left
      · show Act.put _ (some 30) _ = _
        simp only [Act.put, List.setIfInBounds_toArray, List.set_cons_zero, List.set_cons_succ]
        rfl
      refine one_ (i := 7) (N := some 31) #[true, true, true, true, true, true, true, true, false, false, false] rfl rfl (by kernel_rfl) (by decide) (fun K hK => ?_)
      refine value_ (v := .slice (some ⟨w4.heap.size, 0, none⟩) 1 1) (w1 := w4.alloc (.cells [.int .i64 (rd4 s.data.toList (6 + 4 * k))].toArray 3)) (by rfl) rfl (by go_simp) ?_
      refine hK.out _ _ ((blk_cell (blk_alloc H5'.out _) 1).trans rfl) (fun hHeld => ?_)
      clear hK K
      refine norm_ (a' := ?_) ?_ ?_
      rotate_left
      · show Act.put _ (some 31) _ = _
        simp only [Act.put, List.setIfInBounds_toArray, List.set_cons_zero, List.set_cons_succ]
        rfl
      refine one_ (i := 8) (N := some 32) #[true, true, true, true, true, true, true, true, true, false, false] rfl rfl (by kernel_rfl) (by decide) (fun K hK => ?_)
      refine Kd.R_append_step (Kd.int .i64) (w0 := w4) (g + 1) (by rfl) (.tmp 25) (.tmp 31) 22 3 (.int .i64 0) 8 rfl Try.underlying22 info3 rfl (by decide) (by decide) v _ (rd4 s.data.toList (6 + 4 * k)) [.int .i64 (rd4 s.data.toList (6 + 4 * k))] (fun _ => True) (fun k => some k ≠ v.ownBlock) rfl rfl rfl (fun _ h => ⟨trivial, h⟩) (fun _ _ => trivial) HR'.out (Below.refl _ _) HZ'.out (by rw [decs_length]; omega) ?_
      intro v5 w5 hR5 hB5 hg5 _
      obtain ⟨A5, cc5, hv5⟩ := Kd.R_slice hR5
      subst hv5
      have H0'' := Aside0.mk (show w5.heap[b]? = some (.cells #[.string s] 9 (0, 0)) from (hB5.block b (by omega)).trans H0'.out)
      have H1'' := Aside0.mk (show w5.heap[b + 1]? = some (.cells #[.int .i64 0, .slice none 0 0] 24 (0, 0)) from (hB5.block (b + 1) (by omega)).trans H1'.out)
      have H5'' := Aside0.mk (show w5.heap[g]? = some (.cells #[.int .i64 (rd4 s.data.toList 1), v] 24 (0, 0)) from (hB5.block g (by omega)).trans H5'.out)
      have HR'' := Aside0.mk hR5
      have HZ'' := Aside0.mk (Nat.le_trans HZ'.out hB5.size)
      have HB'' := Aside0.mk (HB'.out.trans (hB5.mono (by omega)))
      clear H0' H1' H5' HR' HZ' HB' hR5 hB5 hg5
      refine hK.out _ _ ((blk_cell H5''.out 1).trans rfl) (fun hHeld => ?_)
      clear hK K
      refine norm_ (a' := ?_) ?_ ?_
      rotate_left
      · show Act.put _ (some 32) _ = _
        simp only [Act.put, List.setIfInBounds_toArray, List.set_cons_zero, List.set_cons_succ]
        rfl
      refine pure_ (i := 9) (N := some 33) (v := ?_) (a' := ?_) #[true, true, true, true, true, true, true, true, true, true, false] rfl rfl (by kernel_rfl) (fun _ _ _ h => h) (Or.inl ⟨by rfl, ?_⟩) ?_ ?_
      rotate_left
      · intro w'
        go_simp
        with_reducible rfl
      rotate_left
      · simp only [Act.put, List.setIfInBounds_toArray, List.set_cons_zero, List.set_cons_succ]
        rfl
      refine last_ (i := 10) (N := none) #[true, true, true, true, true, true, true, true, true, true, true] rfl rfl (by kernel_rfl) (by decide) (fun K hK => ?_)
      have hf5 := blk_frozen H5''.out 1
      have hc5' := (blk_cell H5''.out 1).trans rfl
      refine skip_ (w1 := w5.setCell ⟨g, 1, none⟩ (.slice A5 (decs s.data.toList k ++ [rd4 s.data.toList (6 + 4 * k)]).length cc5)) (by rfl) rfl (by go_simp) ?_
      refine hK.out _ _ ?_
      clear hK K hf5 hc5'
      refine done_ (by kernel_rfl) ?_
      go_wp2
      go_roundw
      case rel => exact ⟨k + 1, _, by omega, by go_num, ⟨blk_far H0''.out (show b ≠ g by omega) _⟩, ⟨blk_far H1''.out (show b + 1 ≠ g by omega) _⟩, ⟨blk_set H5''.out 1 _⟩, ⟨by rw [decs_succ]; have h := Kd.R_set HR''.out H5''.out (fun q hq => by simp [Kd.int, Kd.scalar] at hq; omega) 1 (.slice A5 ((decs s.data.toList k).length + 1) cc5); rw [List.length_append, List.length_singleton] at h; exact h⟩, ⟨by simpa using HZ''.out⟩, ⟨HB''.out.setCell (show b ≤ g by omega) _⟩⟩
      case measure => simp [intOf]; omega
    · have hke : k = C := by omega
      subst hke
      obtain ⟨A, c, rfl⟩ := Kd.R_slice HR.out
      obtain ⟨_, hcl, hCr⟩ := Kd.R_reads' HR.out
      have HCr := Aside0.mk hCr
      clear hCr
      have hg0 := (blk_cell H5.out 0).trans rfl
      have hg1 := (blk_cell H5.out 1).trans rfl
      have hcall := fun W => encode_calls (rd4 s.data.toList 1) A c (decs s.data.toList k) W
      have hlenE : (s.data.toList).length = 232 := by rw [data_length]; exact hs
      cases hok : encOk (rd4 s.data.toList 1) (decs s.data.toList k) with
      | false =>
        have HD := Aside0.mk (show decOk s.data.toList = false by unfold decOk decL decN; rw [← HCd.out]; unfold decs at hok; rw [hok]; rfl)
        have hE : encE (rd4 s.data.toList 1) (decs s.data.toList k) = 1 := by unfold encE; rw [hok]; rfl
        have hEB : encB (rd4 s.data.toList 1) (decs s.data.toList k) = [] := by unfold encB; rw [hok]; rfl
        rw [hE, hEB] at hcall
        clear hok hE hEB
        go_wp2_with fail
        refine (hcall _ HCr.out hcl).mono ?_
        rintro e w4 ⟨rfl, hb4⟩
        replace H0 := Aside0.mk (blk_below H0.out hb4)
        replace H1 := Aside0.mk (blk_below H1.out hb4)
        replace H5 := Aside0.mk (blk_below H5.out hb4)
        replace HR := Aside0.mk (Kd.R_below HR.out hb4)
        replace HBw := Aside0.mk (below_then HBw.out (Nat.le_trans (by omega) HZ.out) hb4)
        clear hb4 hcall HCr hg0 hg1
        have hb0 := (blk_cell H0.out 0).trans rfl
        have hg0 := (blk_cell H5.out 0).trans rfl
        have hg1 := (blk_cell H5.out 1).trans rfl
        have hr0 := (blk_cell H1.out 0).trans rfl
        have hr1 := (blk_cell H1.out 1).trans rfl
        have hf0 := blk_frozen H1.out 0
        have hf1 := blk_frozen H1.out 1
        go_wp2
        refine bodyPost_ret (results_ct rfl _ _ (b + 1) 24 #[.int .i64 0, .slice none 0 0] (0, 0) _ rfl ?_ Try.underlying24 rfl (by kernel_rfl)) rfl ?_
        · exact blk_put (blk_put H1.out 0 _ rfl) 1 _ rfl
        · have e1 : decN1 s.data.toList = 0 := by unfold decN1; rw [HD.out]; simp
          have e2 : decL1 s.data.toList = [] := by unfold decL1; rw [HD.out]; simp
          have e3 : decE1 s.data.toList = 4 := by unfold decE1; rw [if_pos hlenE, HD.out]; rfl
          rw [e1, e2, e3]
          exact ⟨_, rfl, Kd.R_nil _ _ _ _ _, ((HBw.out.setCell (show b ≤ b + 1 by omega) _).setCell (show b ≤ b + 1 by omega) _).mono hbs⟩
      | true =>
        have hE : encE (rd4 s.data.toList 1) (decs s.data.toList k) = 0 := by unfold encE; rw [hok]; rfl
        have hEB : encB (rd4 s.data.toList 1) (decs s.data.toList k) = trunkPage (rd4 s.data.toList 1) (decs s.data.toList k) := by unfold encB; rw [hok]; rfl
        rw [hE, hEB] at hcall
        clear hE hEB
        go_wp2_with fail
        refine (hcall _ HCr.out hcl).mono ?_
        rintro e w4 ⟨rfl, hb4⟩
        replace H0 := Aside0.mk (blk_below H0.out hb4)
        replace H1 := Aside0.mk (blk_below H1.out hb4)
        replace H5 := Aside0.mk (blk_below H5.out hb4)
        replace HR := Aside0.mk (Kd.R_below HR.out hb4)
        replace HBw := Aside0.mk (below_then HBw.out (Nat.le_trans (by omega) HZ.out) hb4)
        clear hb4 hcall HCr hg0 hg1
        have hb0 := (blk_cell H0.out 0).trans rfl
        have hg0 := (blk_cell H5.out 0).trans rfl
        have hg1 := (blk_cell H5.out 1).trans rfl
        have hr0 := (blk_cell H1.out 0).trans rfl
        have hr1 := (blk_cell H1.out 1).trans rfl
        have hf0 := blk_frozen H1.out 0
        have hf1 := blk_frozen H1.out 1
        have HOK := Aside0.mk hok
        clear hok
        go_wp2
        · have hne : (!(bs (trunkPage (rd4 s.data.toList 1) (decs s.data.toList k))).toList == s.toList) = true := by assumption
          have HD := Aside0.mk (show decOk s.data.toList = false by
            rw [ByteArray.toList_eq, ByteArray.toList_eq, bs_list] at hne
            have h2 : trunkPage (rd4 s.data.toList 1) (decs s.data.toList k) ≠ s.data.toList := by simpa using hne
            unfold decOk decL decN; rw [← HCd.out]; unfold decs at h2; simp [h2])
          refine bodyPost_ret (results_ct rfl _ _ (b + 1) 24 #[.int .i64 0, .slice none 0 0] (0, 0) _ rfl ?_ Try.underlying24 rfl (by kernel_rfl)) rfl ?_
          · exact blk_put (blk_put H1.out 0 _ rfl) 1 _ rfl
          · have e1 : decN1 s.data.toList = 0 := by unfold decN1; rw [HD.out]; simp
            have e2 : decL1 s.data.toList = [] := by unfold decL1; rw [HD.out]; simp
            have e3 : decE1 s.data.toList = 4 := by unfold decE1; rw [if_pos hlenE, HD.out]; rfl
            rw [e1, e2, e3]
            exact ⟨_, rfl, Kd.R_nil _ _ _ _ _, ((HBw.out.setCell (show b ≤ b + 1 by omega) _).setCell (show b ≤ b + 1 by omega) _).mono hbs⟩
        · have heq : (!(bs (trunkPage (rd4 s.data.toList 1) (decs s.data.toList k))).toList == s.toList) = false := by assumption
          have HD := Aside0.mk (show decOk s.data.toList = true by
            rw [ByteArray.toList_eq, ByteArray.toList_eq, bs_list] at heq
            have h2 : trunkPage (rd4 s.data.toList 1) (decs s.data.toList k) = s.data.toList := by simpa using heq
            have h3 := HOK.out
            unfold decOk decL decN; rw [← HCd.out]; unfold decs at h2 h3; simp [h2, h3])
          refine bodyPost_ret (results_ct rfl _ _ (b + 1) 24 #[.int .i64 (rd4 s.data.toList 1), .slice A (decs s.data.toList k).length c] (0, 0) _ rfl ?_ Try.underlying24 rfl (by kernel_rfl)) rfl ?_
          · exact blk_put (blk_put H1.out 0 _ rfl) 1 _ rfl
          · have e1 : decN1 s.data.toList = rd4 s.data.toList 1 := by unfold decN1; rw [HD.out]; simp [hlenE, decN]
            have e2 : decL1 s.data.toList = decs s.data.toList k := by unfold decL1; rw [HD.out, HCd.out]; simp [hlenE, decL, decs]
            have e3 : decE1 s.data.toList = 0 := by unfold decE1; rw [if_pos hlenE, HD.out]; rfl
            rw [e1, e2, e3]
            refine ⟨_, rfl, ?_, ((HBw.out.setCell (show b ≤ b + 1 by omega) _).setCell (show b ≤ b + 1 by omega) _).mono hbs⟩
            have h4 := Kd.R_set HR.out H1.out (fun q hq => by simp [Kd.int, Kd.scalar] at hq; omega) 0 (.int .i64 (rd4 s.data.toList 1))
            exact Kd.R_lower (Kd.R_set h4 (blk_put H1.out 0 _ rfl) (fun q hq => by simp [Kd.int, Kd.scalar] at hq; omega) 1 _) (by omega)

theorem decode_calls (s : ByteArray) (w : World) :
    Calls Try.prog 14 #[.string s] w fun e w' => ∃ v, e = .returned (.tuple #[.agg #[.int .i64 (decN1 s.data.toList), v], .int .i64 (decE1 s.data.toList)]) ∧
      Kd.R (Kd.int .i64) 3 w' w.heap.size (fun _ => True) v (decL1 s.data.toList) ∧ Below w.heap.size w w' := by
  by_cases hs : s.size = 232
  · exact decode_full s w hs
  · have h : s.data.toList.length ≠ 232 := by rw [data_length]; exact hs
    have e1 : decN1 s.data.toList = 0 := by unfold decN1; rw [if_neg (fun x => h x.1)]
    have e2 : decL1 s.data.toList = [] := by unfold decL1; rw [if_neg (fun x => h x.1)]
    have e3 : decE1 s.data.toList = 1 := by unfold decE1; rw [if_neg h]
    rw [e1, e2, e3]
    exact decode_short s w hs
end Go.Proofs.Ytonbipaajhokfaa
