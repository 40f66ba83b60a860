/-
  Of this claim's texts, laid together by wip/gen/squeeze.py: A5 KB KC.
-/
import Derived.Test.YtonbipaajhokfaaGreatDoorERq3
section
set_option linter.unusedVariables false
set_option linter.unusedSimpArgs false
namespace Go.Proofs.YtonbipaajhokfaaGreatDoor
open Go.RowKit Go.Proofs.YtonbipaajhokfaaGreatDoorW.PrintWords Go.Proofs.YtonbipaajhokfaaGreatDoorW.PrintLast Go.Proofs.YtonbipaajhokfaaGreatDoorW.PrintMore
attribute [local go_sem] max2_int min2_int max_two min_two max_three min_three max_four min_four
/-- The number in four bytes at a place. -/
def rd4 (s : List UInt8) (i : Nat) : Int := beV ((s.drop i).take 4)
theorem byte_at (s : ByteArray) (i : Nat) (h : i < s.size) : s.data.toList.getD i 0 = s[i]'h := by
  have h' : i < s.data.toList.length := by rw [data_length]; exact h
  simp [List.getD_eq_getElem?_getD, List.getElem?_eq_getElem h']
  rfl
theorem extract_list (s : ByteArray) (a b : Nat) : (s.extract a b).data.toList = (s.data.toList.drop a).take (b - a) := by
  rw [ByteArray.data_extract, Array.toList_extract, List.extract_eq_take_drop]
set_option maxHeartbeats 1000000 in
theorem at_calls (pb : Nat) (s : ByteArray) (i : Nat) (w : World) (hp : w.cell? ⟨pb, 0, none⟩ = some (.string s)) (hs : s.size = 232) (h1 : i ≤ 228) :
    Calls Tryz.prog 86 #[.int .i64 i, .pointer (some ⟨pb, 0, none⟩)] w fun e w' => e = .returned (.int .i64 (rd4 s.data.toList i)) ∧ Below w.heap.size w w' := by
  have hx : (s.extract i (i + 4)).size = 4 := by rw [ByteArray.size_extract]; omega
  have HB := Aside0.mk (beV_bd 4 ((s.data.toList.drop i).take 4) (by rw [List.length_take, List.length_drop, data_length]; omega))
  go_enter Tryz.func86, Tryz.ntmps86
  go_wp2_with (go_at_call 44; refine (unfixed_ok _ _ (by omega) (by omega)).mono ?_; rintro e w' ⟨rfl, hb⟩)
  go_ret
  refine ⟨?_, hb⟩
  have h2 := HB.out
  rw [show (256 : Int) ^ 4 = 4294967296 from rfl] at h2
  have e2 : wrap64 (rd4 s.data.toList i) = rd4 s.data.toList i := by unfold wrap64; unfold rd4; omega
  show Ending.returned (Value.int .i64 (wrap64 (rd4 s.data.toList i))) = _
  rw [e2]
def decN (s : List UInt8) : Int := rd4 s 1
def decC (s : List UInt8) : Nat := min (s.getD 5 0).toNat 50
def decL (s : List UInt8) : List Int := (List.range (decC s)).map fun i => rd4 s (6 + 4 * i)
def decs (s : List UInt8) (k : Nat) : List Int := (List.range k).map fun i => rd4 s (6 + 4 * i)
theorem decs_length (s : List UInt8) (k : Nat) : (decs s k).length = k := by simp [decs]
theorem decs_succ (s : List UInt8) (k : Nat) : decs s (k + 1) = decs s k ++ [rd4 s (6 + 4 * k)] := by simp [decs, List.range_succ]
theorem info3 : (Tryz.prog.info? 3).map (fun i => (i.zero, i.size, i.bytes)) = some (some (.int .i64 0), 1, 8) := by kernel_rfl
def decOk (s : List UInt8) : Bool := encOk (decN s) (decL s) && (trunkPage (decN s) (decL s) == s)
/-- What Decode answers: the next trunk, the list, the error. -/
def decN1 (s : List UInt8) : Int := if s.length = 232 ∧ decOk s = true then decN s else 0
def decL1 (s : List UInt8) : List Int := if s.length = 232 ∧ decOk s = true then decL s else []
def decE1 (s : List UInt8) : Int := if s.length = 232 then (if decOk s = true then 0 else 4) else 1
set_option maxHeartbeats 1000000 in
set_option maxRecDepth 100000 in
theorem decode_short (s : ByteArray) (w : World) (hs : s.size ≠ 232) :
    Calls Tryz.prog 71 #[.string s] w fun e w' => ∃ v, e = .returned (.tuple #[.agg #[.int .i64 0, v], .int .i64 1]) ∧ Kd.R (Kd.int .i64) 3 w' w.heap.size (fun _ => True) v [] ∧ Below w.heap.size w w' := by
  have t1 : ((s.size : Int) != 232) = true := by simp; omega
  have hu24 := Tryz.underlying98
  go_enter Tryz.func71, Tryz.ntmps71
  go_wp2
  refine bodyPost_ret (v := .tuple #[.agg #[.int .i64 0, .slice none 0 0], .int .i64 1]) (by simp [results, Tryz.results14, go_sem]) rfl ⟨_, rfl, Kd.R_nil _ _ _ _ _, ?_⟩
  exact below_alloc (below_alloc (Below.refl _ _) _) _
set_option maxHeartbeats 1000000 in
set_option maxRecDepth 100000 in
theorem decode_full (s : ByteArray) (w : World) (hs : s.size = 232) :
    Calls Tryz.prog 71 #[.string s] w fun e w' => ∃ v, e = .returned (.tuple #[.agg #[.int .i64 (decN1 s.data.toList), v], .int .i64 (decE1 s.data.toList)]) ∧
      Kd.R (Kd.int .i64) 3 w' w.heap.size (fun _ => True) v (decL1 s.data.toList) ∧ Below w.heap.size w w' := by
  have t1 : ((s.size : Int) != 232) = false := by simp; omega
  have hu24 := Tryz.underlying98
  go_enter Tryz.func71, Tryz.ntmps71
  go_wp2_with fail
  obtain ⟨w1, hw1⟩ : ∃ w1, w1 = (w.alloc (.cells #[.string s] 9)).alloc (.cells #[.int .i64 0, .slice none 0 0] 98) := ⟨_, rfl⟩
  rw [← hw1]
  have hB1 : Below w.heap.size w w1 := by rw [hw1]; exact below_alloc (below_alloc (Below.refl _ _) _) _
  have h0 : w1.heap[w.heap.size]? = some (.cells #[.string s] 9 (0, 0)) := by rw [hw1]; exact blk_alloc (blk_new w _) _
  have h1 : w1.heap[w.heap.size + 1]? = some (.cells #[.int .i64 0, .slice none 0 0] 98 (0, 0)) := by rw [hw1]; have := blk_new (w.alloc (.cells #[.string s] 9)) (.cells #[.int .i64 0, .slice none 0 0] 98); simpa using this
  have hsz : w.heap.size + 1 < w1.heap.size := by rw [hw1]; simp
  clear hw1
  obtain ⟨b, hb⟩ : ∃ b, b = w.heap.size := ⟨_, rfl⟩
  rw [← hb] at hB1 h0 h1 hsz ⊢
  have hbs : w.heap.size ≤ b := by omega
  clear hb
  have HB1 := Aside0.mk hB1
  have H0 := Aside0.mk h0
  have H1 := Aside0.mk h1
  clear hB1 h0 h1
  refine (at_calls b s 1 w1 ((blk_cell H0.out 0).trans rfl) hs (by omega)).mono ?_
  rintro e w2 ⟨rfl, hb2⟩
  replace H0 := Aside0.mk (blk_below H0.out hb2)
  replace H1 := Aside0.mk (blk_below H1.out hb2)
  replace HB1 := Aside0.mk (below_then HB1.out (by omega) hb2)
  have hsz2 : b + 1 < w2.heap.size := Nat.lt_of_lt_of_le hsz hb2.size
  clear hb2 hsz
  have hp : ∀ o, (w2.alloc o).cell? ⟨b, 0, none⟩ = some (.string s) := fun o => (blk_cell (blk_alloc H0.out o) 0).trans rfl
  obtain ⟨c5, hc5, hc5b, hC⟩ : ∃ c5 : Nat, (∀ h : 5 < s.size, (s[5]'h).toNat = c5) ∧ c5 < 256 ∧ decC s.data.toList = min c5 50 :=
    ⟨(s[5]'(by omega)).toNat, fun _ => rfl, (s[5]'(by omega)).toNat_lt, by unfold decC; rw [byte_at s 5 (by omega)]⟩
  obtain ⟨C, hCd⟩ : ∃ C, C = decC s.data.toList := ⟨_, rfl⟩
  rw [← hCd] at hC
  have HCd := Aside0.mk hCd
  clear hCd
  have hC50 : C ≤ 50 := by omega
  have hmn : (if (50 : Int) < (c5 : Int) then (50 : Int) else (c5 : Int)) = (C : Int) := by split <;> omega
  clear hC
  go_wp2_with fail
  clear hmn hc5 hp
  obtain ⟨w3, hw3⟩ : ∃ w3, w3 = w2.alloc (.cells #[.int .i64 (rd4 s.data.toList 1), .slice none 0 0] 98) := ⟨_, rfl⟩
  rw [← hw3]
  have H5 := Aside0.mk (show w3.heap[w2.heap.size]? = some (.cells #[.int .i64 (rd4 s.data.toList 1), .slice none 0 0] 98 (0, 0)) by rw [hw3]; exact blk_new w2 _)
  replace H0 := Aside0.mk (show w3.heap[b]? = some (.cells #[.string s] 9 (0, 0)) by rw [hw3]; exact blk_alloc H0.out _)
  replace H1 := Aside0.mk (show w3.heap[b + 1]? = some (.cells #[.int .i64 0, .slice none 0 0] 98 (0, 0)) by rw [hw3]; exact blk_alloc H1.out _)
  replace HB1 := Aside0.mk (show Below b w w3 by rw [hw3]; exact HB1.out.alloc (by omega) _)
  have hsz3 : w2.heap.size < w3.heap.size := by rw [hw3]; simp
  clear hw3
  obtain ⟨g, hg⟩ : ∃ g, g = w2.heap.size := ⟨_, rfl⟩
  rw [← hg] at H5 hsz3 hsz2 ⊢
  clear hg
  go_loopw [21] (fun i wr => ∃ (k : Nat) (v : Value), k ≤ C ∧ i = .int .i64 k ∧ Aside0 (wr.heap[b]? = some (.cells #[.string s] 9 (0, 0))) ∧ Aside0 (wr.heap[b + 1]? = some (.cells #[.int .i64 0, .slice none 0 0] 98 (0, 0))) ∧
      Aside0 (wr.heap[g]? = some (.cells #[.int .i64 (rd4 s.data.toList 1), v] 98 (0, 0))) ∧ Aside0 (Kd.R (Kd.int .i64) 3 wr (g + 1) (fun _ => True) v (decs s.data.toList k)) ∧ Aside0 (g + 1 ≤ wr.heap.size) ∧ Aside0 (Below b w wr)) (fun i _ => C - (intOf i).toNat)
  case atStart => exact ⟨0, .slice none 0 0, Nat.zero_le _, rfl, H0, H1, H5, ⟨Kd.R_nil _ _ _ _ _⟩, ⟨hsz3⟩, HB1⟩
  case round =>
    clear H0 H1 H5 HB1 hsz3
    obtain ⟨k, v, hk, rfl, H0, H1, H5, HR, HZ, HBw⟩ := hrel
    by_cases hlt : k < C
    · have hk6 : (6 + 4 * (k : Int)) = ((6 + 4 * k : Nat) : Int) := by omega
      have HK6 := Aside0.mk hk6
      clear hk6
      have hw4 : wrap64 (4 * (k : Int)) = 4 * (k : Int) := by unfold wrap64; omega
      have hw6 : wrap64 (6 + 4 * (k : Int)) = 6 + 4 * (k : Int) := by unfold wrap64; omega
      have HW4 := Aside0.mk hw4
      have HW6 := Aside0.mk hw6
      clear hw4 hw6
      go_wp2_with fail
      have hw4 := HW4.out
      have hw6 := HW6.out
      replace H0 := Aside0.mk (blk_drew H0.out)
      replace H1 := Aside0.mk (blk_drew H1.out)
      replace H5 := Aside0.mk (blk_drew H5.out)
      replace HR := Aside0.mk (Kd.R_drew HR.out)
      replace HZ := Aside0.mk (show g + 1 ≤ wr.drew.heap.size from HZ.out)
      replace HBw := Aside0.mk (below_drew HBw.out)
      refine start_ (n := 11) (S := fun w' => w'.cell? ⟨g, 1, none⟩ = some v) (ds := [10]) #[false, false, false, false, false, false, false, false, false, false, false] (by kernel_rfl) rfl rfl ((blk_cell H5.out 1).trans rfl) (fun hHeld => ?_)
      generalize wr.drew = wd at H0 H1 H5 HR HZ HBw hHeld ⊢
      refine pure_ (i := 0) (N := some 24) (v := ?_) (a' := ?_) #[true, false, false, false, false, false, false, false, false, false, false] rfl rfl (by kernel_rfl) (fun _ _ _ h => h) (Or.inl ⟨by rfl, ?_⟩) ?_ ?_
      rotate_left
      · intro w'
        go_simp
        with_reducible rfl
      rotate_left
      · simp only [Act.put, List.setIfInBounds_toArray, List.set_cons_zero, List.set_cons_succ]
        rfl
      refine pure_ (i := 2) (N := some 26) (v := ?_) (a' := ?_) #[true, false, true, false, false, false, false, false, false, false, false] rfl rfl (by kernel_rfl) (fun _ _ _ h => h) (Or.inl ⟨by rfl, ?_⟩) ?_ ?_
      rotate_left
      · intro w'
        go_simp
        with_reducible rfl
      rotate_left
      · simp only [Act.put, List.setIfInBounds_toArray, List.set_cons_zero, List.set_cons_succ]
        rfl
      refine pure_ (i := 3) (N := some 27) (v := ?_) (a' := ?_) #[true, false, true, true, false, false, false, false, false, false, false] rfl rfl (by kernel_rfl) (fun _ _ _ h => h) (Or.inl ⟨by rfl, ?_⟩) ?_ ?_
      rotate_left
      · intro w'
        go_simp
        with_reducible rfl
      rotate_left
      · simp only [Act.put, List.setIfInBounds_toArray, List.set_cons_zero, List.set_cons_succ]
        rfl
      refine pure_ (i := 4) (N := some 28) (v := ?_) (a' := ?_) #[true, false, true, true, true, false, false, false, false, false, false] rfl rfl (by kernel_rfl) (fun _ _ _ h => h) (Or.inl ⟨by rfl, ?_⟩) ?_ ?_
      rotate_left
      · intro w'
        go_simp
        with_reducible rfl
      rotate_left
      · simp only [Act.put, List.setIfInBounds_toArray, List.set_cons_zero, List.set_cons_succ, i64_w, hw4]
        rfl
      refine pure_ (i := 5) (N := some 29) (v := ?_) (a' := ?_) #[true, false, true, true, true, true, false, false, false, false, false] rfl rfl (by kernel_rfl) (fun _ _ _ h => h) (Or.inl ⟨by rfl, ?_⟩) ?_ ?_
      rotate_left
      · intro w'
        go_simp
        with_reducible rfl
      rotate_left
      · simp only [Act.put, List.setIfInBounds_toArray, List.set_cons_zero, List.set_cons_succ, i64_w, hw6]
        rfl
      refine take_ (i := 1) (N := some 25) (v := ?_) (a' := ?_) #[true, true, true, true, true, true, false, false, false, false, false] rfl rfl (by kernel_rfl) (fun _ _ _ h => h) (Or.inl ⟨by rfl, ?_⟩) hHeld ?_ ?_
      rotate_left
      · rintro w' s1
        go_simp
        with_reducible rfl
      rotate_left
      · simp only [Act.put, List.setIfInBounds_toArray, List.set_cons_zero, List.set_cons_succ]
        rfl
      refine one_ (i := 6) (N := some 30) #[true, true, true, true, true, true, true, false, false, false, false] rfl rfl (by kernel_rfl) (by decide) (fun K hK => ?_)
      refine call_ 86 #[.int .i64 (6 + 4 * (k : Int)), .pointer (some ⟨b, 0, none⟩)] (by rfl) rfl (by go_simp) ?_
      rw [HK6.out]
      refine (at_calls b s (6 + 4 * k) _ ((blk_cell H0.out 0).trans rfl) hs (by omega)).mono ?_
      rintro e w4 ⟨rfl, hb4⟩
      refine ⟨_, rfl, ?_⟩
      have H0' := Aside0.mk (blk_below H0.out hb4)
      have H1' := Aside0.mk (blk_below H1.out hb4)
      have H5' := Aside0.mk (blk_below H5.out hb4)
      have HR' := Aside0.mk (Kd.R_below HR.out hb4)
      have HZ' := Aside0.mk (Nat.le_trans HZ.out hb4.size)
      have HB' := Aside0.mk (below_then HBw.out (Nat.le_trans (by omega) HZ.out) hb4)
      clear H0 H1 H5 HR HZ HBw hb4
      refine hK.out _ _ ((blk_cell H5'.out 1).trans rfl) (fun hHeld => ?_)
      clear hK K
      refine norm_ (a' := ?_) ?_ ?_
      rotate_left
      · show Act.put _ (some 30) _ = _
        simp only [Act.put, List.setIfInBounds_toArray, List.set_cons_zero, List.set_cons_succ]
        rfl
      refine one_ (i := 7) (N := some 31) #[true, true, true, true, true, true, true, true, false, false, false] rfl rfl (by kernel_rfl) (by decide) (fun K hK => ?_)
      refine value_ (v := .slice (some ⟨w4.heap.size, 0, none⟩) 1 1) (w1 := w4.alloc (.cells [.int .i64 (rd4 s.data.toList (6 + 4 * k))].toArray 3)) (by rfl) rfl (by go_simp) ?_
      refine hK.out _ _ ((blk_cell (blk_alloc H5'.out _) 1).trans rfl) (fun hHeld => ?_)
      clear hK K
      refine norm_ (a' := ?_) ?_ ?_
      rotate_left
      · show Act.put _ (some 31) _ = _
        simp only [Act.put, List.setIfInBounds_toArray, List.set_cons_zero, List.set_cons_succ]
        rfl
      refine one_ (i := 8) (N := some 32) #[true, true, true, true, true, true, true, true, true, false, false] rfl rfl (by kernel_rfl) (by decide) (fun K hK => ?_)
      refine Kd.R_append_step (Kd.int .i64) (w0 := w4) (g + 1) (by rfl) (.tmp 25) (.tmp 31) 33 3 (.int .i64 0) 8 rfl Tryz.underlying33 info3 rfl (by decide) (by decide) v _ (rd4 s.data.toList (6 + 4 * k)) [.int .i64 (rd4 s.data.toList (6 + 4 * k))] (fun _ => True) (fun k => some k ≠ v.ownBlock) rfl rfl rfl (fun _ h => ⟨trivial, h⟩) (fun _ _ => trivial) HR'.out (Below.refl _ _) HZ'.out (by rw [decs_length]; omega) ?_
      intro v5 w5 hR5 hB5 hg5 _
      obtain ⟨A5, cc5, hv5⟩ := Kd.R_slice hR5
      subst hv5
      have H0'' := Aside0.mk (show w5.heap[b]? = some (.cells #[.string s] 9 (0, 0)) from (hB5.block b (by omega)).trans H0'.out)
      have H1'' := Aside0.mk (show w5.heap[b + 1]? = some (.cells #[.int .i64 0, .slice none 0 0] 98 (0, 0)) from (hB5.block (b + 1) (by omega)).trans H1'.out)
      have H5'' := Aside0.mk (show w5.heap[g]? = some (.cells #[.int .i64 (rd4 s.data.toList 1), v] 98 (0, 0)) from (hB5.block g (by omega)).trans H5'.out)
      have HR'' := Aside0.mk hR5
      have HZ'' := Aside0.mk (Nat.le_trans HZ'.out hB5.size)
      have HB'' := Aside0.mk (HB'.out.trans (hB5.mono (by omega)))
      clear H0' H1' H5' HR' HZ' HB' hR5 hB5 hg5
      refine hK.out _ _ ((blk_cell H5''.out 1).trans rfl) (fun hHeld => ?_)
      clear hK K
      refine norm_ (a' := ?_) ?_ ?_
      rotate_left
      · show Act.put _ (some 32) _ = _
        simp only [Act.put, List.setIfInBounds_toArray, List.set_cons_zero, List.set_cons_succ]
        rfl
      refine pure_ (i := 9) (N := some 33) (v := ?_) (a' := ?_) #[true, true, true, true, true, true, true, true, true, true, false] rfl rfl (by kernel_rfl) (fun _ _ _ h => h) (Or.inl ⟨by rfl, ?_⟩) ?_ ?_
      rotate_left
      · intro w'
        go_simp
        with_reducible rfl
      rotate_left
      · simp only [Act.put, List.setIfInBounds_toArray, List.set_cons_zero, List.set_cons_succ]
        rfl
      refine last_ (i := 10) (N := none) #[true, true, true, true, true, true, true, true, true, true, true] rfl rfl (by kernel_rfl) (by decide) (fun K hK => ?_)
      have hf5 := blk_frozen H5''.out 1
      have hc5' := (blk_cell H5''.out 1).trans rfl
      refine skip_ (w1 := w5.setCell ⟨g, 1, none⟩ (.slice A5 (decs s.data.toList k ++ [rd4 s.data.toList (6 + 4 * k)]).length cc5)) (by rfl) rfl (by go_simp) ?_
      refine hK.out _ _ ?_
      clear hK K hf5 hc5'
      refine done_ (by kernel_rfl) ?_
      go_wp2
      go_roundw
      case rel => exact ⟨k + 1, _, by omega, by go_num, ⟨blk_far H0''.out (show b ≠ g by omega) _⟩, ⟨blk_far H1''.out (show b + 1 ≠ g by omega) _⟩, ⟨blk_set H5''.out 1 _⟩, ⟨by rw [decs_succ]; have h := Kd.R_set HR''.out H5''.out (fun q hq => by simp [Kd.int, Kd.scalar] at hq; omega) 1 (.slice A5 ((decs s.data.toList k).length + 1) cc5); rw [List.length_append, List.length_singleton] at h; exact h⟩, ⟨by simpa using HZ''.out⟩, ⟨HB''.out.setCell (show b ≤ g by omega) _⟩⟩
      case measure => simp [intOf]; omega
    · have hke : k = C := by omega
      subst hke
      obtain ⟨A, c, rfl⟩ := Kd.R_slice HR.out
      obtain ⟨_, hcl, hCr⟩ := Kd.R_reads' HR.out
      have HCr := Aside0.mk hCr
      clear hCr
      have hg0 := (blk_cell H5.out 0).trans rfl
      have hg1 := (blk_cell H5.out 1).trans rfl
      have hcall := fun W => encode_calls (rd4 s.data.toList 1) A c (decs s.data.toList k) W
      have hlenE : (s.data.toList).length = 232 := by rw [data_length]; exact hs
      cases hok : encOk (rd4 s.data.toList 1) (decs s.data.toList k) with
      | false =>
        have HD := Aside0.mk (show decOk s.data.toList = false by unfold decOk decL decN; rw [← HCd.out]; unfold decs at hok; rw [hok]; rfl)
        have hE : encE (rd4 s.data.toList 1) (decs s.data.toList k) = 1 := by unfold encE; rw [hok]; rfl
        have hEB : encB (rd4 s.data.toList 1) (decs s.data.toList k) = [] := by unfold encB; rw [hok]; rfl
        rw [hE, hEB] at hcall
        clear hok hE hEB
        go_wp2_with fail
        refine (hcall _ HCr.out hcl).mono ?_
        rintro e w4 ⟨rfl, hb4⟩
        replace H0 := Aside0.mk (blk_below H0.out hb4)
        replace H1 := Aside0.mk (blk_below H1.out hb4)
        replace H5 := Aside0.mk (blk_below H5.out hb4)
        replace HR := Aside0.mk (Kd.R_below HR.out hb4)
        replace HBw := Aside0.mk (below_then HBw.out (Nat.le_trans (by omega) HZ.out) hb4)
        clear hb4 hcall HCr hg0 hg1
        have hb0 := (blk_cell H0.out 0).trans rfl
        have hg0 := (blk_cell H5.out 0).trans rfl
        have hg1 := (blk_cell H5.out 1).trans rfl
        have hr0 := (blk_cell H1.out 0).trans rfl
        have hr1 := (blk_cell H1.out 1).trans rfl
        have hf0 := blk_frozen H1.out 0
        have hf1 := blk_frozen H1.out 1
        go_wp2
        refine bodyPost_ret (results_ct rfl _ _ (b + 1) 98 #[.int .i64 0, .slice none 0 0] (0, 0) _ rfl ?_ Tryz.underlying98 rfl (by kernel_rfl)) rfl ?_
        · exact blk_put (blk_put H1.out 0 _ rfl) 1 _ rfl
        · have e1 : decN1 s.data.toList = 0 := by unfold decN1; rw [HD.out]; simp
          have e2 : decL1 s.data.toList = [] := by unfold decL1; rw [HD.out]; simp
          have e3 : decE1 s.data.toList = 4 := by unfold decE1; rw [if_pos hlenE, HD.out]; rfl
          rw [e1, e2, e3]
          exact ⟨_, rfl, Kd.R_nil _ _ _ _ _, ((HBw.out.setCell (show b ≤ b + 1 by omega) _).setCell (show b ≤ b + 1 by omega) _).mono hbs⟩
      | true =>
        have hE : encE (rd4 s.data.toList 1) (decs s.data.toList k) = 0 := by unfold encE; rw [hok]; rfl
        have hEB : encB (rd4 s.data.toList 1) (decs s.data.toList k) = trunkPage (rd4 s.data.toList 1) (decs s.data.toList k) := by unfold encB; rw [hok]; rfl
        rw [hE, hEB] at hcall
        clear hE hEB
        go_wp2_with fail
        refine (hcall _ HCr.out hcl).mono ?_
        rintro e w4 ⟨rfl, hb4⟩
        replace H0 := Aside0.mk (blk_below H0.out hb4)
        replace H1 := Aside0.mk (blk_below H1.out hb4)
        replace H5 := Aside0.mk (blk_below H5.out hb4)
        replace HR := Aside0.mk (Kd.R_below HR.out hb4)
        replace HBw := Aside0.mk (below_then HBw.out (Nat.le_trans (by omega) HZ.out) hb4)
        clear hb4 hcall HCr hg0 hg1
        have hb0 := (blk_cell H0.out 0).trans rfl
        have hg0 := (blk_cell H5.out 0).trans rfl
        have hg1 := (blk_cell H5.out 1).trans rfl
        have hr0 := (blk_cell H1.out 0).trans rfl
        have hr1 := (blk_cell H1.out 1).trans rfl
        have hf0 := blk_frozen H1.out 0
        have hf1 := blk_frozen H1.out 1
        have HOK := Aside0.mk hok
        clear hok
        go_wp2
        · have hne : (!(bs (trunkPage (rd4 s.data.toList 1) (decs s.data.toList k))).toList == s.toList) = true := by assumption
          have HD := Aside0.mk (show decOk s.data.toList = false by
            rw [ByteArray.toList_eq, ByteArray.toList_eq, bs_list] at hne
            have h2 : trunkPage (rd4 s.data.toList 1) (decs s.data.toList k) ≠ s.data.toList := by simpa using hne
            unfold decOk decL decN; rw [← HCd.out]; unfold decs at h2; simp [h2])
          refine bodyPost_ret (results_ct rfl _ _ (b + 1) 98 #[.int .i64 0, .slice none 0 0] (0, 0) _ rfl ?_ Tryz.underlying98 rfl (by kernel_rfl)) rfl ?_
          · exact blk_put (blk_put H1.out 0 _ rfl) 1 _ rfl
          · have e1 : decN1 s.data.toList = 0 := by unfold decN1; rw [HD.out]; simp
            have e2 : decL1 s.data.toList = [] := by unfold decL1; rw [HD.out]; simp
            have e3 : decE1 s.data.toList = 4 := by unfold decE1; rw [if_pos hlenE, HD.out]; rfl
            rw [e1, e2, e3]
            exact ⟨_, rfl, Kd.R_nil _ _ _ _ _, ((HBw.out.setCell (show b ≤ b + 1 by omega) _).setCell (show b ≤ b + 1 by omega) _).mono hbs⟩
        · have heq : (!(bs (trunkPage (rd4 s.data.toList 1) (decs s.data.toList k))).toList == s.toList) = false := by assumption
          have HD := Aside0.mk (show decOk s.data.toList = true by
            rw [ByteArray.toList_eq, ByteArray.toList_eq, bs_list] at heq
            have h2 : trunkPage (rd4 s.data.toList 1) (decs s.data.toList k) = s.data.toList := by simpa using heq
            have h3 := HOK.out
            unfold decOk decL decN; rw [← HCd.out]; unfold decs at h2 h3; simp [h2, h3])
          refine bodyPost_ret (results_ct rfl _ _ (b + 1) 98 #[.int .i64 (rd4 s.data.toList 1), .slice A (decs s.data.toList k).length c] (0, 0) _ rfl ?_ Tryz.underlying98 rfl (by kernel_rfl)) rfl ?_
          · exact blk_put (blk_put H1.out 0 _ rfl) 1 _ rfl
          · have e1 : decN1 s.data.toList = rd4 s.data.toList 1 := by unfold decN1; rw [HD.out]; simp [hlenE, decN]
            have e2 : decL1 s.data.toList = decs s.data.toList k := by unfold decL1; rw [HD.out, HCd.out]; simp [hlenE, decL, decs]
            have e3 : decE1 s.data.toList = 0 := by unfold decE1; rw [if_pos hlenE, HD.out]; rfl
            rw [e1, e2, e3]
            refine ⟨_, rfl, ?_, ((HBw.out.setCell (show b ≤ b + 1 by omega) _).setCell (show b ≤ b + 1 by omega) _).mono hbs⟩
            have h4 := Kd.R_set HR.out H1.out (fun q hq => by simp [Kd.int, Kd.scalar] at hq; omega) 0 (.int .i64 (rd4 s.data.toList 1))
            exact Kd.R_lower (Kd.R_set h4 (blk_put H1.out 0 _ rfl) (fun q hq => by simp [Kd.int, Kd.scalar] at hq; omega) 1 _) (by omega)
theorem decode_calls (s : ByteArray) (w : World) :
    Calls Tryz.prog 71 #[.string s] w fun e w' => ∃ v, e = .returned (.tuple #[.agg #[.int .i64 (decN1 s.data.toList), v], .int .i64 (decE1 s.data.toList)]) ∧
      Kd.R (Kd.int .i64) 3 w' w.heap.size (fun _ => True) v (decL1 s.data.toList) ∧ Below w.heap.size w w' := by
  by_cases hs : s.size = 232
  · exact decode_full s w hs
  · have h : s.data.toList.length ≠ 232 := by rw [data_length]; exact hs
    have e1 : decN1 s.data.toList = 0 := by unfold decN1; rw [if_neg (fun x => h x.1)]
    have e2 : decL1 s.data.toList = [] := by unfold decL1; rw [if_neg (fun x => h x.1)]
    have e3 : decE1 s.data.toList = 1 := by unfold decE1; rw [if_neg h]
    rw [e1, e2, e3]
    exact decode_short s w hs
end Go.Proofs.YtonbipaajhokfaaGreatDoor
end
section
set_option linter.unusedVariables false
set_option linter.unusedSimpArgs false
namespace Go.Proofs.YtonbipaajhokfaaGreatDoor
open Go.RowKit Go.Proofs.YtonbipaajhokfaaGreatDoorW.PrintWords Go.Proofs.YtonbipaajhokfaaGreatDoorW.PrintLast Go.Proofs.YtonbipaajhokfaaGreatDoorW.PrintMore
/-- Of what was there, blocks of F alone may have changed. -/
structure Fr (F : Nat → Prop) (w w' : World) : Prop where
  os : w'.os = w.os
  tape : w'.tape = w.tape
  output : w'.output = w.output
  size : w.heap.size ≤ w'.heap.size
  block : ∀ k, k < w.heap.size → ¬ F k → w'.heap[k]? = w.heap[k]?
theorem Fr.refl (F : Nat → Prop) (w : World) : Fr F w w := ⟨rfl, rfl, rfl, Nat.le_refl _, fun _ _ _ => rfl⟩
theorem Fr.of_below {F : Nat → Prop} {w w' : World} (h : Below w.heap.size w w') : Fr F w w' := ⟨h.os, h.tape, h.output, h.size, fun k hk _ => h.block k hk⟩
theorem Fr.trans {F F' : Nat → Prop} {a b c : World} (h : Fr F a b) (k : Fr F' b c) (hF : ∀ i, i < a.heap.size → F' i → F i) : Fr F a c :=
  ⟨k.os.trans h.os, k.tape.trans h.tape, k.output.trans h.output, Nat.le_trans h.size k.size, fun i hi hn =>
    (k.block i (Nat.lt_of_lt_of_le hi h.size) (fun hf => hn (hF i hi hf))).trans (h.block i hi hn)⟩
theorem Fr.mono {F F' : Nat → Prop} {a b : World} (h : Fr F a b) (hF : ∀ i, i < a.heap.size → F i → F' i) : Fr F' a b :=
  ⟨h.os, h.tape, h.output, h.size, fun i hi hn => h.block i hi (fun hf => hn (hF i hi hf))⟩
theorem Fr.alloc {F : Nat → Prop} {a b : World} (h : Fr F a b) (o : Obj) : Fr F a (b.alloc o) :=
  h.trans (Fr.of_below (F := F) (below_alloc (Below.refl _ _) o)) (fun _ _ h => h)
theorem Fr.then_below {F : Nat → Prop} {a b c : World} (h : Fr F a b) (k : Below b.heap.size b c) : Fr F a c := h.trans (Fr.of_below (F := F) k) (fun _ _ h => h)
theorem Fr.setCell {F : Nat → Prop} {a b : World} (h : Fr F a b) {p : Addr} (hp : F p.block ∨ a.heap.size ≤ p.block) (u : Value) : Fr F a (b.setCell p u) :=
  ⟨h.os, h.tape, h.output, by simpa using h.size, fun k hk hn => (Below.heap_setCell b p u k (fun e => by rcases hp with hp | hp; exact hn (e ▸ hp); omega)).trans (h.block k hk hn)⟩
theorem Fr.grown {F : Nat → Prop} {a b c : World} {row : Option Nat} (h : Fr F a b) (hg : b.grownBy c row) (hr : ∀ k, row = some k → F k ∨ a.heap.size ≤ k) : Fr F a c :=
  ⟨hg.os.trans h.os, hg.tape.trans h.tape, hg.output.trans h.output, Nat.le_trans h.size hg.size, fun k hk hn =>
    (hg.block k (Nat.lt_of_lt_of_le hk h.size) (fun e => by rcases hr k e.symm with h1 | h1; exact hn h1; omega)).trans (h.block k hk hn)⟩
/-- Where F lies from B on, a call that changes F alone leaves all below B. -/
theorem Fr.below {F : Nat → Prop} {B : Nat} {w w' : World} (h : Fr F w w') (hF : ∀ k, F k → B ≤ k) (hB : B ≤ w.heap.size) : Below B w w' :=
  ⟨h.os, h.tape, h.output, h.size, fun k hk => h.block k (by omega) (fun hf => by have := hF k hf; omega)⟩
theorem Fr.blk {F : Nat → Prop} {w w' : World} {g : Nat} {o : Obj} (h : Fr F w w') (hb : w.heap[g]? = some o) (hn : ¬ F g) : w'.heap[g]? = some o :=
  (h.block g (blk_lt hb) hn).trans hb
def firstAt (p : Int → Bool) : List Int → Int
  | [] => -1
  | x :: r => if p x then 0 else (if firstAt p r = -1 then -1 else firstAt p r + 1)
theorem firstAt_range (p : Int → Bool) (l : List Int) : -1 ≤ firstAt p l ∧ firstAt p l < l.length := by
  induction l with
  | nil => simp [firstAt]
  | cons x r ih => unfold firstAt; simp only [List.length_cons]; split <;> (try split) <;> omega
theorem firstAt_at {p : Int → Bool} {l : List Int} {k : Nat} (hk : k < l.length) (hb : ∀ j, j < k → p (l.getD j 0) = false) (h : p (l.getD k 0) = true) : firstAt p l = k := by
  induction l generalizing k with
  | nil => simp at hk
  | cons x r ih =>
    cases k with
    | zero => simp at h; simp [firstAt, h]
    | succ k =>
      have h0 := hb 0 (by omega)
      simp at h0
      have := ih (k := k) (by simpa using hk) (fun j hj => by have := hb (j + 1) (by omega); simpa using this) (by simpa using h)
      simp only [firstAt, h0, this]
      rw [if_neg (by decide), if_neg (by omega)]
      omega
theorem firstAt_no {p : Int → Bool} {l : List Int} (hb : ∀ j, j < l.length → p (l.getD j 0) = false) : firstAt p l = -1 := by
  induction l with
  | nil => rfl
  | cons x r ih =>
    have h0 := hb 0 (by simp)
    simp at h0
    have := ih (fun j hj => by have := hb (j + 1) (by simpa using hj); simpa using this)
    simp [firstAt, h0, this]
def eqB (n x : Int) : Bool := decide (x = n)
/-- Where a page stands among numbers, -1: nowhere. -/
def placeOf (N : List Int) (n : Int) : Int := firstAt (eqB n) N
def BookAt (w : World) (F : Nat → Prop) (kb : Nat) (N : List Int) (D : List ByteArray) : Prop :=
  F kb ∧ (∀ k, F k → k < w.heap.size) ∧ N.length = D.length ∧ ∃ vN vD, w.heap[kb]? = some (.cells #[vN, vD] 76 (0, 0)) ∧
    (Kd.int .i64).R 3 w 0 F vN N ∧ Kd.string.R 9 w 0 F vD D
theorem BookAt.keep {w w' : World} {F : Nat → Prop} {kb : Nat} {N : List Int} {D : List ByteArray} (h : BookAt w F kb N D) (hk : ∀ k, F k → w'.heap[k]? = w.heap[k]?) (hs : w.heap.size ≤ w'.heap.size) : BookAt w' F kb N D := by
  obtain ⟨h1, h2, h3, vN, vD, h4, h5, h6⟩ := h
  exact ⟨h1, fun k hf => Nat.lt_of_lt_of_le (h2 k hf) hs, h3, vN, vD, (hk kb h1).trans h4, Kd.R_move h5 hk, Kd.R_move h6 hk⟩
theorem BookAt.below {w w' : World} {F : Nat → Prop} {kb : Nat} {N : List Int} {D : List ByteArray} (h : BookAt w F kb N D) (hb : Below w.heap.size w w') : BookAt w' F kb N D :=
  h.keep (fun k hk => hb.block k (h.2.1 k hk)) hb.size
def blankL : List UInt8 := List.replicate 232 0
def getB (N : List Int) (D : List ByteArray) (n : Int) : ByteArray := if placeOf N n < 0 then bs blankL else D.getD (placeOf N n).toNat ByteArray.empty
def putN (N : List Int) (n : Int) : List Int := if placeOf N n < 0 then N ++ [n] else N
def putD (N : List Int) (D : List ByteArray) (n : Int) (d : ByteArray) : List ByteArray := if placeOf N n < 0 then D ++ [d] else D.set (placeOf N n).toNat d
set_option maxHeartbeats 1000000 in
theorem place_calls (kb : Nat) (F : Nat → Prop) (N : List Int) (D : List ByteArray) (n : Int) (w : World) (h : BookAt w F kb N D) :
    Calls Tryz.prog 54 #[.pointer (some ⟨kb, 0, none⟩), .int .i64 n] w fun e w' => e = .returned (.int .i64 (placeOf N n)) ∧ w = w' := by
  obtain ⟨h1, h2, h3, vN, vD, h4, h5, h6⟩ := h
  obtain ⟨A, c, rfl⟩ := Kd.R_slice h5
  obtain ⟨_, hc, hC⟩ := Kd.R_reads' h5
  have hm := Kd.C_max hC
  have HC := Aside0.mk hC
  have hc0 := (blk_cell h4 0).trans rfl
  clear h1 h2 h3 h4 h5 h6 hC
  go_enter Tryz.func54, Tryz.ntmps54
  go_wp2
  go_loop [5] (fun i => ∃ k : Nat, k ≤ N.length ∧ i = .int .i64 k ∧ Aside0 (∀ j, j < k → eqB n (N.getD j 0) = false)) (fun i => N.length - (intOf i).toNat)
  case atStart => exact ⟨0, Nat.zero_le _, rfl, ⟨fun j hj => absurd hj (Nat.not_lt_zero j)⟩⟩
  case round =>
    obtain ⟨k, hk, rfl, hno⟩ := hrel
    by_cases hlt : k < N.length
    · obtain ⟨ad, e1, hx⟩ := Kd.at_int HC.out (k : Int) (by omega) (by omega)
      cases e1
      rw [show rd N (k : Int) = N.getD k 0 from rfl, Int.toNat_natCast] at hx
      obtain ⟨x, hxd⟩ : ∃ x, x = N.getD k 0 := ⟨_, rfl⟩
      rw [← hxd] at hx
      have HX := Aside0.mk hxd
      clear hxd
      by_cases hb : x = n
      · have HR := Aside0.mk (firstAt_at (p := eqB n) hlt hno.out (by rw [← HX.out]; simp [eqB, hb]))
        have ht : (x == n) = true := by simp [hb]
        clear hb
        go_wp2
        go_ret
        exact ⟨by unfold placeOf; rw [HR.out]; rfl, rfl⟩
      · have ht : (x == n) = false := by simp [hb]
        have HN := Aside0.mk hb
        clear hb
        go_wp2
        go_round
        case rel => exact ⟨k + 1, by omega, by go_num, ⟨fun j hj => by
          rcases Nat.lt_or_ge j k with h | h
          · exact hno.out j h
          · obtain rfl : j = k := by omega
            rw [← HX.out]; simp [eqB, HN.out]⟩⟩
        case measure => simp [intOf]; omega
    · have hke : k = N.length := by omega
      subst hke
      have HR := Aside0.mk (firstAt_no (p := eqB n) hno.out)
      go_wp2
      go_ret
      exact ⟨by unfold placeOf; rw [HR.out]; rfl, rfl⟩
end Go.Proofs.YtonbipaajhokfaaGreatDoor
set_option linter.unusedVariables false
set_option linter.unusedSimpArgs false
namespace Go.Proofs.YtonbipaajhokfaaGreatDoor
open Go.RowKit Go.Proofs.YtonbipaajhokfaaGreatDoorW.PrintWords Go.Proofs.YtonbipaajhokfaaGreatDoorW.PrintLast Go.Proofs.YtonbipaajhokfaaGreatDoorW.PrintMore
def fullL (l : List UInt8) : List UInt8 := l.take 232 ++ List.replicate (232 - l.length) 0
theorem fullL_length (l : List UInt8) : (fullL l).length = 232 := by simp [fullL]; omega
theorem full_f (s : ByteArray) : PChainReads.cahierref04_Full.f s = some (bs (fullL s.data.toList)) := by
  unfold PChainReads.cahierref04_Full.f
  by_cases h : s.size ≥ 232
  · rw [if_pos (by omega), if_pos (by omega), if_pos (by omega)]
    congr 1
    rw [← bs_of (s.extract 0 _)]
    congr 1
    rw [extract_list]
    unfold fullL
    rw [data_length, show 232 - s.size = 0 by omega]
    simp
  · have e : wrap64 (232 - (s.size : Int)) = ((232 - s.size : Nat) : Int) := by unfold wrap64; omega
    rw [if_neg (by omega), e, if_pos (by omega), Int.toNat_natCast, if_pos (by omega)]
    simp only [Option.bind_some]
    rw [strOfNums_bs, bs_size, List.length_map, List.length_replicate, if_pos (by omega)]
    congr 1
    rw [← bs_of s, bs_append, bs_list]
    congr 1
    unfold fullL
    rw [data_length, List.take_of_length_le (by rw [data_length]; omega), List.map_replicate]
    rfl
theorem full_calls (s : ByteArray) (w : World) : Calls Tryz.prog 27 #[.string s] w fun e w' => e = .returned (.string (bs (fullL s.data.toList))) ∧ Below w.heap.size w w' :=
  PChainReads.cahierref04_Full.calls _ _ w (full_f s)
theorem full_empty : PChainReads.cahierref04_Full.f ⟨#[]⟩ = some (bs blankL) := full_f ⟨#[]⟩
theorem full_empty_calls (w : World) : Calls Tryz.prog 27 #[.string ⟨#[]⟩] w fun e w' => e = .returned (.string (bs blankL)) ∧ Below w.heap.size w w' :=
  PChainReads.cahierref04_Full.calls _ _ w full_empty
set_option maxHeartbeats 1000000 in
theorem bookGet_calls (kb : Nat) (F : Nat → Prop) (N : List Int) (D : List ByteArray) (n : Int) (w : World) (h : BookAt w F kb N D) :
    Calls Tryz.prog 49 #[.pointer (some ⟨kb, 0, none⟩), .int .i64 n] w fun e w' => e = .returned (.string (getB N D n)) ∧ Below w.heap.size w w' := by
  have H := Aside0.mk h
  obtain ⟨h1, h2, h3, vN, vD, h4, h5, h6⟩ := h
  obtain ⟨A, c, rfl⟩ := Kd.R_slice h6
  obtain ⟨_, hc, hC⟩ := Kd.R_reads' h6
  have HC := Aside0.mk hC
  have hc1 := (blk_cell h4 1).trans rfl
  have hr := firstAt_range (eqB n) N
  have hm := Kd.C_max hC
  rw [show firstAt (eqB n) N = placeOf N n from rfl] at hr
  have H3 := Aside0.mk h3
  clear h1 h2 h3 h4 h5 h6 hC
  obtain ⟨p, hp⟩ : ∃ p, p = placeOf N n := ⟨_, rfl⟩
  rw [← hp] at hr
  have HP := Aside0.mk hp
  clear hp
  by_cases hlt : p < 0
  · have HG : Aside0 (getB N D n = bs blankL) := ⟨by unfold getB; rw [← HP.out, if_pos hlt]⟩
    go_enter Tryz.func49, Tryz.ntmps49
    go_wp2_with (first | (go_at_call 54; refine (place_calls _ _ _ _ _ _ H.out).mono ?_; rintro e w' ⟨rfl, rfl⟩; rw [← HP.out]) | (go_at_call 27; refine (full_empty_calls _).mono ?_; rintro e w' ⟨rfl, hb⟩))
    go_ret
    exact ⟨by rw [HG.out]; rfl, hb⟩
  · obtain ⟨k, rfl⟩ := Int.eq_ofNat_of_zero_le (show 0 ≤ p by omega)
    have hk : k < D.length := by have := H3.out; omega
    obtain ⟨ad, e1, hx⟩ := Kd.at_string HC.out (k : Int) (by omega) (by omega)
    cases e1
    rw [Int.toNat_natCast] at hx
    have HG : Aside0 (getB N D n = rdOf ByteArray.empty D (k : Int)) := ⟨by unfold getB; rw [← HP.out, if_neg hlt]; rfl⟩
    obtain ⟨x, hxd⟩ : ∃ x, x = rdOf ByteArray.empty D (k : Int) := ⟨_, rfl⟩
    rw [← hxd] at hx HG
    clear hxd hlt
    go_enter Tryz.func49, Tryz.ntmps49
    go_wp2_with (first | (go_at_call 54; refine (place_calls _ _ _ _ _ _ H.out).mono ?_; rintro e w' ⟨rfl, rfl⟩; rw [← HP.out]) | (go_at_call 27; refine (full_empty_calls _).mono ?_; rintro e w' ⟨rfl, hb⟩))
    go_ret
    exact ⟨by rw [HG.out]; rfl, Below.refl _ _⟩
end Go.Proofs.YtonbipaajhokfaaGreatDoor
set_option linter.unusedVariables false
set_option linter.unusedSimpArgs false
namespace Go.Proofs.YtonbipaajhokfaaGreatDoor
open Go.RowKit Go.Proofs.YtonbipaajhokfaaGreatDoorW.PrintWords Go.Proofs.YtonbipaajhokfaaGreatDoorW.PrintLast Go.Proofs.YtonbipaajhokfaaGreatDoorW.PrintMore
theorem R_ne_blk {α : Type} {d : Kd α} {e base : Nat} {ok : Nat → Prop} {w : World} {v : Value} {xs : List α} (h : d.R e w base ok v xs) {g : Nat} {t : TypeId} {cs : Array Value} (hb : w.heap[g]? = some (.cells cs t (0, 0))) (ht : t ≠ e) : some g ≠ v.ownBlock := by
  intro he
  obtain ⟨inner, ho⟩ := Kd.R_own h
  obtain ⟨cells, hc⟩ := own_typed ho g he.symm
  rw [hb] at hc
  injection hc with hc
  injection hc with _ hc
  exact ht hc
theorem info9 : (Tryz.prog.info? 9).map (fun i => (i.zero, i.size, i.bytes)) = some (some (.string ⟨#[]⟩), 1, 16) := by kernel_rfl
theorem no39 : ∀ q : Nat, q ∈ 9 :: Kd.string.E → q ≠ 3 := fun q hq => by simp [Kd.string, Kd.scalar] at hq; omega
theorem no93 : ∀ q : Nat, q ∈ 3 :: (Kd.int .i64).E → q ≠ 9 := fun q hq => by simp [Kd.int, Kd.scalar] at hq; omega
theorem no943 : ∀ q : Nat, q ∈ 9 :: Kd.string.E → q ≠ 76 := fun q hq => by simp [Kd.string, Kd.scalar] at hq; omega
theorem no343 : ∀ q : Nat, q ∈ 3 :: (Kd.int .i64).E → q ≠ 76 := fun q hq => by simp [Kd.int, Kd.scalar] at hq; omega
theorem below0 {w w1 : World} {row : Option Nat} (h : w.grownBy w1 row) {p : Addr} {u : Value} : Below 0 w (w1.setCell p u) :=
  ⟨h.os, h.tape, h.output, by simpa using h.size, fun k hk => absurd hk (Nat.not_lt_zero k)⟩
/-- F and what is new. -/
def Fnew (F : Nat → Prop) (w w' : World) : Nat → Prop := fun k => F k ∨ (w.heap.size ≤ k ∧ k < w'.heap.size)
set_option maxHeartbeats 2000000 in
set_option maxRecDepth 100000 in
theorem bookPut_new (kb : Nat) (F : Nat → Prop) (N : List Int) (D : List ByteArray) (n : Int) (d : ByteArray) (w : World) (h : BookAt w F kb N D) (hN : N.length < 1048576) (hp : placeOf N n < 0) :
    Calls Tryz.prog 36 #[.pointer (some ⟨kb, 0, none⟩), .int .i64 n, .string d] w fun e w' => e = .returned (.tuple #[]) ∧ BookAt w' (Fnew F w w') kb (N ++ [n]) (D ++ [d]) ∧ Fr F w w' := by
  have H := Aside0.mk h
  obtain ⟨h1, h2, h3, vN, vD, h4, h5, h6⟩ := h
  obtain ⟨A, c, rfl⟩ := Kd.R_slice h5
  obtain ⟨A2, c2, rfl⟩ := Kd.R_slice h6
  have hc0 := (blk_cell h4 0).trans rfl
  have hc1 := (blk_cell h4 1).trans rfl
  have HP := Aside0.mk hp
  have hr := (firstAt_range (eqB n) N).1
  have hpe : placeOf N n = -1 := by unfold placeOf at hp ⊢; omega
  have HPE := Aside0.mk hpe
  have H1 := Aside0.mk h1
  have H2 := Aside0.mk h2
  have H3 := Aside0.mk h3
  have H4 := Aside0.mk h4
  have H5 := Aside0.mk (Kd.R_mono (ok' := fun k => F k ∨ w.heap.size ≤ k) h5 (fun k hk => Or.inl hk))
  have H6 := Aside0.mk (Kd.R_mono (ok' := fun k => F k ∨ w.heap.size ≤ k) h6 (fun k hk => Or.inl hk))
  have HVN := Aside0.mk h5.1
  have HVD := Aside0.mk h6.1
  clear h1 h2 h3 h4 h5 h6 hp hr hpe
  go_enter Tryz.func36, Tryz.ntmps36
  go_wp2_with (first
    | (go_at_call 54; refine (place_calls _ _ _ _ _ _ H.out).mono ?_; rintro e w' ⟨rfl, rfl⟩; rw [HPE.out])
    | (at_builtin; refine Kd.R_append (Kd.int .i64) (w0 := w) 0 rfl (.tmp 16) (.tmp 18) 33 3 (.int .i64 0) 8 rfl Tryz.underlying33 info3 rfl (by decide) (by decide) (.slice A N.length c) _ n [.int .i64 n] (fun k => F k ∨ w.heap.size ≤ k) (fun k => some k ≠ (Value.slice A N.length c).ownBlock ∧ (F k ∨ w.heap.size ≤ k)) rfl rfl rfl (fun _ h => ⟨h.2, h.1⟩) (fun _ hk => Or.inr hk) H5.out (Below.refl 0 w) (Nat.zero_le _) (by omega) ?_; intro v1 w1 hR1 hB1 hG1 hat1; obtain ⟨A1, cc1, hv1⟩ := Kd.R_slice hR1; subst hv1; simp only [List.length_append, List.length_singleton] at hR1 ⊢; have HG1 := Aside0.mk hG1; have HR1 := Aside0.mk hR1; have HK1 := Aside0.mk (blk_grown H4.out hG1 (R_ne_blk H5.out H4.out (by decide))); have HD1 := Aside0.mk (Kd.R_over H6.out H5.out no39 hG1); clear hR1 hB1 hG1 hat1; have hk0 := (blk_cell HK1.out 0).trans rfl; have hk1 := (blk_cell HK1.out 1).trans rfl; have hf0 := blk_frozen HK1.out 0; have hf1 := blk_frozen HK1.out 1)
    | (at_builtin; refine Kd.R_append Kd.string (w0 := w) 0 rfl (.tmp 26) (.tmp 28) 22 9 (.string ⟨#[]⟩) 16 rfl Tryz.underlying22 info9 rfl (by decide) (by decide) (.slice A2 D.length c2) _ d [.string d] (fun k => F k ∨ w.heap.size ≤ k) (fun k => some k ≠ (Value.slice A2 D.length c2).ownBlock ∧ (F k ∨ w.heap.size ≤ k)) rfl (by show Value.slice (some ⟨w1.heap.size, 0, none⟩) 1 1 = _; simp) rfl (fun _ h => ⟨h.2, h.1⟩) (fun k hk => Or.inr (by have := HG1.out.size; simp at hk; omega)) (Kd.R_set HD1.out HK1.out no943 0 (.slice A1 (N.length + 1) cc1)) (below0 HG1.out) (Nat.zero_le _) (by have := H3.out; omega) ?_; intro v2 w2 hR2 hB2 hG2 hat2; obtain ⟨A3, cc3, hv2⟩ := Kd.R_slice hR2; subst hv2; simp only [List.length_append, List.length_singleton] at hR2 ⊢; have HG2 := Aside0.mk hG2; have HR2 := Aside0.mk hR2; have HS1 := Aside0.mk (Kd.R_set HR1.out HK1.out no343 0 (.slice A1 (N.length + 1) cc1)); have HT1 := Aside0.mk (Kd.R_set HD1.out HK1.out no943 0 (.slice A1 (N.length + 1) cc1)); have HK1' := Aside0.mk (blk_set HK1.out 0 (.slice A1 (N.length + 1) cc1)); have HK2 := Aside0.mk (blk_grown HK1'.out hG2 (R_ne_blk HT1.out HK1'.out (by decide))); have HN2 := Aside0.mk (Kd.R_over HS1.out HT1.out no93 hG2); clear hR2 hB2 hG2 hat2; have hk0' := (blk_cell HK2.out 0).trans rfl; have hk1' := (blk_cell HK2.out 1).trans rfl; have hf0' := blk_frozen HK2.out 0; have hf1' := blk_frozen HK2.out 1))
  refine bodyPost_ret (results_none rfl _ _ _) rfl ⟨rfl, ?_, ?_⟩
  · have hN3 := Kd.R_bound (Kd.R_set HN2.out HK2.out no343 1 (.slice A3 (D.length + 1) cc3))
    have hD3 := Kd.R_bound (Kd.R_set HR2.out HK2.out no943 1 (.slice A3 (D.length + 1) cc3))
    refine ⟨Or.inl H1.out, fun k hk => ?_, by simp [H3.out], _, _, blk_put HK2.out 1 _ rfl, ?_, ?_⟩
    · rcases hk with hk | hk
      · have h1 := H2.out k hk
        have h2 := HG1.out.size
        have h3 := HG2.out.size
        simp only [World.size_setCell] at h3 ⊢
        omega
      · exact hk.2
    · refine Kd.R_mono hN3 (fun k hk => ?_)
      rcases hk.1 with h1 | h1
      · exact Or.inl h1
      · exact Or.inr ⟨h1, hk.2.2.1⟩
    · refine Kd.R_mono hD3 (fun k hk => ?_)
      rcases hk.1 with h1 | h1
      · exact Or.inl h1
      · exact Or.inr ⟨h1, hk.2.2.1⟩
  · exact (((((Fr.refl F w).grown HG1.out (fun k hk => Or.inl (HVN.out k hk))).setCell (Or.inl H1.out) _).grown HG2.out (fun k hk => Or.inl (HVD.out k hk))).setCell (Or.inl H1.out) _)
set_option maxHeartbeats 2000000 in
set_option maxRecDepth 100000 in
theorem bookPut_old (kb : Nat) (F : Nat → Prop) (N : List Int) (D : List ByteArray) (n : Int) (d : ByteArray) (w : World) (h : BookAt w F kb N D) (k : Nat) (hp : placeOf N n = k) :
    Calls Tryz.prog 36 #[.pointer (some ⟨kb, 0, none⟩), .int .i64 n, .string d] w fun e w' => e = .returned (.tuple #[]) ∧ BookAt w' (Fnew F w w') kb N (D.set k d) ∧ Fr F w w' := by
  have H := Aside0.mk h
  obtain ⟨h1, h2, h3, vN, vD, h4, h5, h6⟩ := h
  have hr := firstAt_range (eqB n) N
  have hk : k < D.length := by unfold placeOf at hp; omega
  obtain ⟨g, c2, rfl, _, hgl, cells, hgc⟩ := Kd.R_form h6 (by omega)
  obtain ⟨hcell, hfz⟩ := Kd.R_cell ByteArray.empty h6 (k : Int) (by omega) (by omega)
  rw [Int.toNat_natCast] at hcell hfz
  have hc0 := (blk_cell h4 0).trans rfl
  have hc1 := (blk_cell h4 1).trans rfl
  have HP := Aside0.mk hp
  have H1 := Aside0.mk h1
  have H2 := Aside0.mk h2
  have H3 := Aside0.mk h3
  have H4 := Aside0.mk h4
  have H5 := Aside0.mk h5
  have H6 := Aside0.mk h6
  have HG := Aside0.mk (h6.1 g (by simp [Value.ownBlock]))
  have HNE := Aside0.mk (blk_ne h4 hgc (by decide))
  have HGC := Aside0.mk hgc
  clear h1 h2 h3 h4 h5 h6 hp hr hgc
  have hm : D.length ≤ 9223372036854775807 := by
    obtain ⟨_, _, hC⟩ := Kd.R_reads' H6.out
    exact Kd.C_max hC
  go_enter Tryz.func36, Tryz.ntmps36
  go_wp2_with (first
    | (go_at_call 54; refine (place_calls _ _ _ _ _ _ H.out).mono ?_; rintro e w' ⟨rfl, rfl⟩; rw [HP.out]))
  refine bodyPost_end (results_none rfl _ _ _) rfl ⟨rfl, ?_, ?_⟩
  · have hput := (Kd.R_put H6.out (k : Int) d).1
    rw [Int.toNat_natCast] at hput
    refine ⟨Or.inl H1.out, fun i hi => ?_, by simp [H3.out], _, _, (blk_far H4.out HNE.out _), Kd.R_mono (Kd.R_set H5.out HGC.out no93 k (.string d)) (fun i hi => Or.inl hi), Kd.R_mono ?_ (fun i hi => Or.inl hi)⟩
    · rcases hi with hi | hi
      · have := H2.out i hi
        simp only [World.size_setCell]
        exact this
      · exact hi.2
    · exact hput
  · exact (Fr.refl F w).setCell (Or.inl HG.out) _
theorem bookPut_calls (kb : Nat) (F : Nat → Prop) (N : List Int) (D : List ByteArray) (n : Int) (d : ByteArray) (w : World) (h : BookAt w F kb N D) (hN : N.length < 1048576) :
    Calls Tryz.prog 36 #[.pointer (some ⟨kb, 0, none⟩), .int .i64 n, .string d] w fun e w' => e = .returned (.tuple #[]) ∧ BookAt w' (Fnew F w w') kb (putN N n) (putD N D n d) ∧ Fr F w w' := by
  unfold putN putD
  by_cases hp : placeOf N n < 0
  · rw [if_pos hp, if_pos hp]; exact bookPut_new kb F N D n d w h hN hp
  · rw [if_neg hp, if_neg hp]
    exact bookPut_old kb F N D n d w h _ (by omega)
/-- A call has gone from (w, F) to a world where the object stands in state s' (At), its blocks F's or new; of what was there F alone may have changed. -/
def Goes (At : (Nat → Prop) → Prop) (F : Nat → Prop) (w w' : World) : Prop := ∃ F' : Nat → Prop, At F' ∧ (∀ k, F' k → F k ∨ w.heap.size ≤ k) ∧ Fr F w w'
theorem BookAt.mono {w : World} {F F' : Nat → Prop} {kb : Nat} {N : List Int} {D : List ByteArray} (h : BookAt w F kb N D) (hF : ∀ k, F k → F' k) (hb : ∀ k, F' k → k < w.heap.size) : BookAt w F' kb N D := by
  obtain ⟨h1, h2, h3, vN, vD, h4, h5, h6⟩ := h
  exact ⟨hF _ h1, hb, h3, vN, vD, h4, Kd.R_mono h5 hF, Kd.R_mono h6 hF⟩
/-- A book while another block's cells are written. -/
theorem BookAt.setCell {w : World} {F : Nat → Prop} {kb : Nat} {N : List Int} {D : List ByteArray} (h : BookAt w F kb N D) {g : Nat} {t : TypeId} {cs : Array Value} (hb : w.heap[g]? = some (.cells cs t (0, 0))) (h1 : t ≠ 76) (h2 : t ≠ 3) (h3 : t ≠ 9) (i : Nat) (u : Value) : BookAt (w.setCell ⟨g, i, none⟩ u) F kb N D := by
  obtain ⟨h4, h5, h6, vN, vD, h7, h8, h9⟩ := h
  exact ⟨h4, fun k hk => by simpa using h5 k hk, h6, vN, vD, blk_far h7 (blk_ne h7 hb (Ne.symm h1)) u, Kd.R_set h8 hb (fun q hq => by simp [Kd.int, Kd.scalar] at hq; subst hq; exact Ne.symm h2) i u, Kd.R_set h9 hb (fun q hq => by simp [Kd.string, Kd.scalar] at hq; subst hq; exact Ne.symm h3) i u⟩
end Go.Proofs.YtonbipaajhokfaaGreatDoor
end
section
set_option linter.unusedVariables false
set_option linter.unusedSimpArgs false
namespace Go.Proofs.YtonbipaajhokfaaGreatDoor
open Go.RowKit Go.Proofs.YtonbipaajhokfaaGreatDoorW.PrintWords Go.Proofs.YtonbipaajhokfaaGreatDoorW.PrintLast Go.Proofs.YtonbipaajhokfaaGreatDoorW.PrintMore
/-- A store of pages behind an interface value: its two methods, where it stands in memory, what its calls answer. -/
structure Shop (St : Type) where
  T : TypeId
  x : Value
  fg : FuncId
  fp : FuncId
  mg : ∀ w, (method 292 T x "Get").run Tryz.prog w = .ok (fg, x) w
  mp : ∀ w, (method 292 T x "Put").run Tryz.prog w = .ok (fp, x) w
  eg : ∀ args w, (callFunc fg args).run Tryz.prog w = .ok (.enter fg args) w
  ep : ∀ args w, (callFunc fp args).run Tryz.prog w = .ok (.enter fp args) w
  At : World → (Nat → Prop) → St → Prop
  keep : ∀ {w w' F s}, At w F s → (∀ k, F k → w'.heap[k]? = w.heap[k]?) → w.heap.size ≤ w'.heap.size → At w' F s
  bound : ∀ {w F s}, At w F s → ∀ k, F k → k < w.heap.size
  fits : St → Prop
  get : St → Int → St × ByteArray × Int
  put : St → Int → ByteArray → St × Int
  fits_get : ∀ {s} (n : Int), fits s → fits (get s n).1
  cg : ∀ {w F s} (n : Int), At w F s → Calls Tryz.prog fg #[x, .int .i64 n] w fun e w' => e = .returned (.tuple #[.string (get s n).2.1, .int .i64 (get s n).2.2]) ∧ Goes (fun F' => At w' F' (get s n).1) F w w'
  cp : ∀ {w F s} (n : Int) (d : ByteArray), At w F s → fits s → Calls Tryz.prog fp #[x, .int .i64 n, .string d] w fun e w' => e = .returned (.int .i64 (put s n d).2) ∧ Goes (fun F' => At w' F' (put s n d).1) F w w'
theorem no324 : ∀ q : Nat, q ∈ 3 :: (Kd.int .i64).E → q ≠ 98 := fun q hq => by simp [Kd.int, Kd.scalar] at hq; omega
variable {St : Type}
theorem Shop.below {S : Shop St} {w w' : World} {F : Nat → Prop} {s : St} (h : S.At w F s) (hb : Below w.heap.size w w') : S.At w' F s :=
  S.keep h (fun k hk => hb.block k (S.bound h k hk)) hb.size
theorem Shop.far {S : Shop St} {w : World} {F : Nat → Prop} {s : St} (h : S.At w F s) {p : Addr} (hp : ¬ F p.block) (u : Value) : S.At (w.setCell p u) F s :=
  S.keep h (fun k hk => Below.heap_setCell w p u k (fun e => hp (e ▸ hk))) (by simp)
def Shop.trunk (S : Shop St) (s : St) (n : Int) : St × Int × List Int × Int :=
  let r := S.get s n
  if r.2.2 ≠ 0 then (r.1, 0, [], r.2.2) else (if decE1 r.2.1.data.toList ≠ 0 then (r.1, 0, [], 30) else (r.1, decN1 r.2.1.data.toList, decL1 r.2.1.data.toList, 0))
/-- What trunk leaves. -/
def TrunkPost (S : Shop St) (F : Nat → Prop) (w : World) (r : St × Int × List Int × Int) (e : Ending) (w' : World) : Prop :=
  ∃ v, e = .returned (.tuple #[.agg #[.int .i64 r.2.1, v], .int .i64 r.2.2.2]) ∧ ∃ F' : Nat → Prop, S.At w' F' r.1 ∧ (∀ k, F' k → F k ∨ w.heap.size ≤ k) ∧ Fr F w w' ∧
    (Kd.int .i64).R 3 w' 0 (fun k => ¬ F' k ∧ w.heap.size ≤ k) v r.2.2.1
set_option maxHeartbeats 2000000 in
set_option maxRecDepth 100000 in
theorem trunk_calls (S : Shop St) (F : Nat → Prop) (s : St) (n : Int) (w : World) (h : S.At w F s) :
    Calls Tryz.prog 55 #[.iface S.T S.x, .int .i64 n] w (TrunkPost S F w (S.trunk s n)) := by
  have hmg := S.mg
  have heg := S.eg
  have H := Aside0.mk h
  have HB := Aside0.mk (S.bound h)
  have hu24 := Tryz.underlying98
  clear h
  go_enter Tryz.func55, Tryz.ntmps55
  go_wp2_with fail
  refine (S.cg (F := F) (s := s) n (Shop.below H.out (below_alloc (Below.refl _ _) _))).mono ?_
  rintro e w1 ⟨rfl, F1, hA1, hF1, hR1⟩
  have h0 : w1.heap[w.heap.size]? = some (.cells #[.int .i64 0, .slice none 0 0] 98 (0, 0)) := hR1.blk (blk_new w _) (fun h => by have := HB.out _ h; omega)
  have hn0 : ¬ F1 w.heap.size := fun h => by
    rcases hF1 _ h with h1 | h1
    · have := HB.out _ h1; omega
    · simp at h1; omega
  have hRR := (Fr.of_below (F := F) (below_alloc (Below.refl w.heap.size w) (.cells #[.int .i64 0, .slice none 0 0] 98))).trans hR1 (fun _ _ h => h)
  have hFF : ∀ k, F1 k → F k ∨ w.heap.size ≤ k := fun k hk => (hF1 k hk).imp id (fun h => by simp at h; omega)
  clear hR1 hF1
  obtain ⟨b, hb⟩ : ∃ b, b = w.heap.size := ⟨_, rfl⟩
  rw [← hb] at h0 hn0 ⊢
  have HBW := Aside0.mk hb
  clear hb
  have HT : Aside0 (S.trunk s n = if (S.get s n).2.2 ≠ 0 then ((S.get s n).1, 0, [], (S.get s n).2.2) else (if decE1 (S.get s n).2.1.data.toList ≠ 0 then ((S.get s n).1, 0, [], 30) else ((S.get s n).1, decN1 (S.get s n).2.1.data.toList, decL1 (S.get s n).2.1.data.toList, 0))) := ⟨rfl⟩
  obtain ⟨⟨s1, p, er⟩, hr⟩ : ∃ r, r = S.get s n := ⟨_, rfl⟩
  rw [← hr] at hA1 HT ⊢
  clear hr
  have HA1 := Aside0.mk hA1
  have H0 := Aside0.mk h0
  have HN0 := Aside0.mk hn0
  have HRR := Aside0.mk hRR
  have HFF := Aside0.mk hFF
  clear hA1 h0 hn0 hRR hFF hmg heg
  by_cases he : er = 0
  · have ht : (er != 0) = false := by simp [he]
    cases he2 : decide (decE1 p.data.toList = 0) with
    | false =>
      have hne := of_decide_eq_false he2
      have HT2 := Aside0.mk (show S.trunk s n = (s1, 0, [], 30) by rw [HT.out]; simp [he, hne])
      have ht2 : (decE1 p.data.toList != 0) = true := by simp [hne]
      clear HT he2 hne he
      go_wp2_with fail
      refine (decode_calls p w1).mono ?_
      rintro e w2 ⟨v, rfl, hv, hb2⟩
      obtain ⟨A, c, rfl⟩ := Kd.R_slice hv
      have h0' := blk_below H0.out hb2
      have hc : ∀ o, (w2.alloc o).cell? ⟨b, 0, none⟩ = some (.int .i64 0) := fun o => (blk_cell (blk_alloc h0' o) 0).trans rfl
      have hc' : ∀ o, (w2.alloc o).cell? ⟨b, 1, none⟩ = some (.slice none 0 0) := fun o => (blk_cell (blk_alloc h0' o) 1).trans rfl
      have hf : ∀ o, (w2.alloc o).frozen? ⟨b, 0, none⟩ = false := fun o => blk_frozen (blk_alloc h0' o) 0
      have hf' : ∀ o, (w2.alloc o).frozen? ⟨b, 1, none⟩ = false := fun o => blk_frozen (blk_alloc h0' o) 1
      have H0' := Aside0.mk h0'
      have HB2 := Aside0.mk hb2
      have HV := Aside0.mk hv
      clear h0' hb2 hv
      go_wp2
      refine bodyPost_ret (results_ct rfl _ _ b 98 #[.int .i64 0, .slice none 0 0] (0, 0) _ rfl ?_ Tryz.underlying98 rfl (by kernel_rfl)) rfl ?_
      · exact blk_put (blk_put (blk_alloc H0'.out _) 0 _ rfl) 1 _ rfl
      · rw [HT2.out]
        refine ⟨_, rfl, F1, ?_, HFF.out, ?_, Kd.R_nil _ _ _ _ _⟩
        · exact Shop.far (Shop.far (Shop.below (Shop.below HA1.out HB2.out) (below_alloc (Below.refl _ _) _)) HN0.out _) HN0.out _
        · exact ((((HRR.out.then_below HB2.out).alloc _).setCell (Or.inr (by rw [HBW.out]; exact Nat.le_refl _)) _).setCell (Or.inr (by rw [HBW.out]; exact Nat.le_refl _)) _)
    | true =>
      have heq := of_decide_eq_true he2
      have HT2 := Aside0.mk (show S.trunk s n = (s1, decN1 p.data.toList, decL1 p.data.toList, 0) by rw [HT.out]; simp [he, heq])
      clear HT he2 he
      have hdc := fun W => decode_calls p W
      rw [heq] at hdc
      clear heq
      go_wp2_with fail
      refine (hdc w1).mono ?_
      rintro e w2 ⟨v, rfl, hv, hb2⟩
      obtain ⟨A, c, rfl⟩ := Kd.R_slice hv
      have h0' := blk_below H0.out hb2
      have hc : ∀ o, (w2.alloc o).cell? ⟨b, 0, none⟩ = some (.int .i64 0) := fun o => (blk_cell (blk_alloc h0' o) 0).trans rfl
      have hc' : ∀ o, (w2.alloc o).cell? ⟨b, 1, none⟩ = some (.slice none 0 0) := fun o => (blk_cell (blk_alloc h0' o) 1).trans rfl
      have hf : ∀ o, (w2.alloc o).frozen? ⟨b, 0, none⟩ = false := fun o => blk_frozen (blk_alloc h0' o) 0
      have hf' : ∀ o, (w2.alloc o).frozen? ⟨b, 1, none⟩ = false := fun o => blk_frozen (blk_alloc h0' o) 1
      have H0' := Aside0.mk h0'
      have HB2 := Aside0.mk hb2
      have HV := Aside0.mk hv
      clear h0' hb2 hv hdc
      go_wp2
      refine bodyPost_ret (results_ct rfl _ _ b 98 #[.int .i64 (decN1 p.data.toList), .slice A (decL1 p.data.toList).length c] (0, 0) _ rfl ?_ Tryz.underlying98 rfl (by kernel_rfl)) rfl ?_
      · exact blk_put (blk_put (blk_alloc H0'.out _) 0 _ rfl) 1 _ rfl
      · rw [HT2.out]
        refine ⟨_, rfl, F1, ?_, HFF.out, ?_, ?_⟩
        · exact Shop.far (Shop.far (Shop.below (Shop.below HA1.out HB2.out) (below_alloc (Below.refl _ _) _)) HN0.out _) HN0.out _
        · exact ((((HRR.out.then_below HB2.out).alloc _).setCell (Or.inr (by rw [HBW.out]; exact Nat.le_refl _)) _).setCell (Or.inr (by rw [HBW.out]; exact Nat.le_refl _)) _)
        · have hb1 := S.bound HA1.out
          have hs1 := HRR.out.size
          have h1 := Kd.R_mono (ok' := fun k => ¬ F1 k ∧ w.heap.size ≤ k) (Kd.R_bound HV.out) (fun k hk => ⟨fun hf => by have := hb1 k hf; have := hk.2.1; omega, by have := hk.2.1; omega⟩)
          have h2 := Kd.R_alloc (Kd.R_lower h1 (Nat.zero_le _)) (.cells #[.int .i64 (decN1 p.data.toList), .slice A (decL1 p.data.toList).length c] 98)
          have h3 := Kd.R_set h2 (blk_alloc H0'.out _) no324 0 (.int .i64 (decN1 p.data.toList))
          exact Kd.R_set h3 (blk_put (blk_alloc H0'.out _) 0 _ rfl) no324 1 _
  · have ht : (er != 0) = true := by simp [he]
    have HT2 := Aside0.mk (show S.trunk s n = (s1, 0, [], er) by rw [HT.out]; simp [he])
    clear HT he
    have hc := (blk_cell H0.out 0).trans rfl
    have hc' := (blk_cell H0.out 1).trans rfl
    have hf := blk_frozen H0.out 0
    have hf' := blk_frozen H0.out 1
    go_wp2
    refine bodyPost_ret (results_ct rfl _ _ b 98 #[.int .i64 0, .slice none 0 0] (0, 0) _ rfl ?_ Tryz.underlying98 rfl (by kernel_rfl)) rfl ?_
    · exact blk_put (blk_put H0.out 0 _ rfl) 1 _ rfl
    · rw [HT2.out]
      refine ⟨_, rfl, F1, ?_, HFF.out, ?_, Kd.R_nil _ _ _ _ _⟩
      · exact Shop.far (Shop.far HA1.out HN0.out _) HN0.out _
      · exact (HRR.out.setCell (Or.inr (by rw [HBW.out]; exact Nat.le_refl _)) _).setCell (Or.inr (by rw [HBW.out]; exact Nat.le_refl _)) _
def Shop.lay (S : Shop St) (s : St) (n : Int) (next : Int) (l : List Int) : St × Int :=
  if encOk next l then S.put s n (bs (trunkPage next l)) else (s, 30)
set_option maxHeartbeats 2000000 in
set_option maxRecDepth 100000 in
theorem lay_calls (S : Shop St) (F : Nat → Prop) (s : St) (n : Int) (next : Int) (A : Option Addr) (c : Nat) (l : List Int) (w : World) (h : S.At w F s) (hfit : S.fits s) (hl : Kd.C (Kd.int .i64) w A l.length l) (hlc : l.length ≤ c) :
    Calls Tryz.prog 56 #[.iface S.T S.x, .int .i64 n, .agg #[.int .i64 next, .slice A l.length c]] w fun e w' => e = .returned (.int .i64 (S.lay s n next l).2) ∧ Goes (fun F' => S.At w' F' (S.lay s n next l).1) F w w' := by
  have hmp := S.mp
  have hep := S.ep
  have H := Aside0.mk h
  have HB := Aside0.mk (S.bound h)
  have HL := Aside0.mk hl
  have hu24 := Tryz.underlying98
  have hcall := fun W => encode_calls next A c l W
  clear h hl
  cases hok : encOk next l with
  | false =>
    have HLY := Aside0.mk (show S.lay s n next l = (s, 30) by unfold Shop.lay; rw [hok]; rfl)
    have hE : encE next l = 1 := by unfold encE; rw [hok]; rfl
    rw [hE] at hcall
    clear hE hok
    go_enter Tryz.func56, Tryz.ntmps56
    go_wp2_with fail
    refine (hcall _ (Kd.C_alloc HL.out _) hlc).mono ?_
    rintro e w2 ⟨rfl, hb2⟩
    clear hcall
    go_wp2
    go_ret
    rw [HLY.out]
    exact ⟨rfl, F, Shop.below (Shop.below H.out (below_alloc (Below.refl _ _) _)) hb2, fun k hk => Or.inl hk, ((Fr.refl F w).alloc _).then_below hb2⟩
  | true =>
    have HLY := Aside0.mk (show S.lay s n next l = S.put s n (bs (trunkPage next l)) by unfold Shop.lay; rw [hok]; rfl)
    have hE : encE next l = 0 := by unfold encE; rw [hok]; rfl
    have hEB : encB next l = trunkPage next l := by unfold encB; rw [hok]; rfl
    rw [hE, hEB] at hcall
    clear hE hEB hok
    go_enter Tryz.func56, Tryz.ntmps56
    go_wp2_with fail
    refine (hcall _ (Kd.C_alloc HL.out _) hlc).mono ?_
    rintro e w2 ⟨rfl, hb2⟩
    clear hcall
    have HA := Aside0.mk (Shop.below (Shop.below H.out (below_alloc (Below.refl _ _) _)) hb2)
    have HR := Aside0.mk ((((Fr.refl F w).alloc (.cells #[.int .i64 next, .slice A l.length c] 98))).then_below hb2)
    clear hb2
    go_wp2_with fail
    refine (S.cp n (bs (trunkPage next l)) HA.out hfit).mono ?_
    rintro e w3 ⟨rfl, F3, hA3, hF3, hR3⟩
    clear hmp hep
    go_wp2
    go_ret
    rw [HLY.out]
    exact ⟨rfl, F3, hA3, fun k hk => (hF3 k hk).imp id (fun h => Nat.le_trans HR.out.size h), HR.out.trans hR3 (fun _ _ h => h)⟩
end Go.Proofs.YtonbipaajhokfaaGreatDoor
set_option linter.unusedVariables false
set_option linter.unusedSimpArgs false
namespace Go.Proofs.YtonbipaajhokfaaGreatDoor
open Go.RowKit Go.Proofs.YtonbipaajhokfaaGreatDoorW.PrintWords Go.Proofs.YtonbipaajhokfaaGreatDoorW.PrintLast Go.Proofs.YtonbipaajhokfaaGreatDoorW.PrintMore
variable {St : Type}
theorem results_tct {P : Program} {fn : Func} {p u v : Tmp} {ty : TypeId} (h : fn.results = #[.tmp u, .cell p ty, .tmp v]) (tmps : Array Value) (w : World) (g : Nat) (t : TypeId) (cs : Array Value) (fr : Nat × Nat) (d : TypeDesc)
    (hp : tmps.getD p undef = .pointer (some ⟨g, 0, none⟩)) (hg : w.heap[g]? = some (.cells cs t fr))
    (hu : P.underlying ty = some d) (hd : (match d with | .struct _ | .array _ _ => true | _ => false) = true) (hi : (P.info? ty).map (·.size) = some cs.size) :
    (results fn tmps).run P w = .ok (.tuple #[tmps.getD u undef, .agg cs, tmps.getD v undef]) w := by
  have hp' : tmps[p]?.getD undef = .pointer (some ⟨g, 0, none⟩) := by simpa using hp
  simp [results, h, hp', asAddr, run_loadVar_row w g t ty cs fr d hg hu hd hi]
/-- A head. -/
structure Hd where
  mode : Int
  pages : Int
  trunk : Int
  spare : Int
  root : Int
  change : Int
  deriving DecidableEq
def Hd.v (h : Hd) : Value := .agg #[.int .i64 h.mode, .int .i64 h.pages, .int .i64 h.trunk, .int .i64 h.spare, .int .i64 h.root, .int .u64 h.change]
def Hd.zero : Hd := ⟨0, 0, 0, 0, 0, 0⟩
section
variable {w : World} {g : Nat} {t : TypeId} {x0 x1 x2 x3 x4 x5 : Value} {F : Nat → Prop} {s : St} {S : Shop St}
theorem put6 (h : w.heap[g]? = some (.cells #[x0, x1, x2, x3, x4, x5] t (0, 0))) (y0 y1 y2 y3 y4 y5 : Value) :
    ((((((w.setCell ⟨g, 0, none⟩ y0).setCell ⟨g, 1, none⟩ y1).setCell ⟨g, 2, none⟩ y2).setCell ⟨g, 3, none⟩ y3).setCell ⟨g, 4, none⟩ y4).setCell ⟨g, 5, none⟩ y5).heap[g]? = some (.cells #[y0, y1, y2, y3, y4, y5] t (0, 0)) :=
  blk_put (blk_put (blk_put (blk_put (blk_put (blk_put h 0 _ rfl) 1 _ rfl) 2 _ rfl) 3 _ rfl) 4 _ rfl) 5 _ rfl
theorem at6 (h : S.At w F s) (hn : ¬ F g) (y0 y1 y2 y3 y4 y5 : Value) :
    S.At ((((((w.setCell ⟨g, 0, none⟩ y0).setCell ⟨g, 1, none⟩ y1).setCell ⟨g, 2, none⟩ y2).setCell ⟨g, 3, none⟩ y3).setCell ⟨g, 4, none⟩ y4).setCell ⟨g, 5, none⟩ y5) F s :=
  Shop.far (Shop.far (Shop.far (Shop.far (Shop.far (Shop.far h hn _) hn _) hn _) hn _) hn _) hn _
theorem fr6 {w0 : World} (h : Fr F w0 w) (hn : F g ∨ w0.heap.size ≤ g) (y0 y1 y2 y3 y4 y5 : Value) :
    Fr F w0 ((((((w.setCell ⟨g, 0, none⟩ y0).setCell ⟨g, 1, none⟩ y1).setCell ⟨g, 2, none⟩ y2).setCell ⟨g, 3, none⟩ y3).setCell ⟨g, 4, none⟩ y4).setCell ⟨g, 5, none⟩ y5) :=
  (((((h.setCell (p := ⟨g, 0, none⟩) hn y0).setCell (p := ⟨g, 1, none⟩) hn y1).setCell (p := ⟨g, 2, none⟩) hn y2).setCell (p := ⟨g, 3, none⟩) hn y3).setCell (p := ⟨g, 4, none⟩) hn y4).setCell (p := ⟨g, 5, none⟩) hn y5
end
set_option maxHeartbeats 4000000 in
set_option maxRecDepth 100000 in
theorem take_A (S : Shop St) (F : Nat → Prop) (s : St) (m p t sp r ch : Int) (w : World) (h : S.At w F s) (h0 : sp = 0) (hp : 4096 ≤ p) :
    Calls Tryz.prog 40 #[.agg #[.int .i64 m, .int .i64 p, .int .i64 t, .int .i64 sp, .int .i64 r, .int .u64 ch], .iface S.T S.x] w fun e w' => e = .returned (.tuple #[.int .i64 0, Hd.zero.v, .int .i64 22]) ∧ Goes (fun F' => S.At w' F' s) F w w' := by
  have H := Aside0.mk h
  have HB := Aside0.mk (S.bound h)
  have hu35 := Tryz.underlying48
  have t0 : (sp == 0) = true := by simp [h0]
  have t1 : decide (4096 ≤ p) = true := decide_eq_true hp
  clear h h0 hp
  go_enter Tryz.func40, Tryz.ntmps40
  go_wp2
  refine bodyPost_ret (results_tct rfl _ _ (w.heap.size + 1) 48 #[.int .i64 0, .int .i64 0, .int .i64 0, .int .i64 0, .int .i64 0, .int .u64 0] (0, 0) _ rfl ?_ Tryz.underlying48 rfl (by kernel_rfl)) rfl ?_
  · have := blk_new (w.alloc (.cells #[.int .i64 m, .int .i64 p, .int .i64 t, .int .i64 sp, .int .i64 r, .int .u64 ch] 48)) (.cells #[.int .i64 0, .int .i64 0, .int .i64 0, .int .i64 0, .int .i64 0, .int .u64 0] 48)
    simpa using this
  · exact ⟨rfl, F, Shop.below H.out (below_alloc (below_alloc (Below.refl _ _) _) _), fun k hk => Or.inl hk, ((Fr.refl F w).alloc _).alloc _⟩
set_option maxHeartbeats 4000000 in
set_option maxRecDepth 100000 in
theorem take_B (S : Shop St) (F : Nat → Prop) (s : St) (m p t sp r ch : Int) (w : World) (h : S.At w F s) (h0 : sp = 0) (hp0 : 0 ≤ p) (hp : p < 4096) :
    Calls Tryz.prog 40 #[.agg #[.int .i64 m, .int .i64 p, .int .i64 t, .int .i64 sp, .int .i64 r, .int .u64 ch], .iface S.T S.x] w fun e w' => e = .returned (.tuple #[.int .i64 p, (Hd.mk m (p + 1) t sp r ch).v, .int .i64 0]) ∧ Goes (fun F' => S.At w' F' s) F w w' := by
  have H := Aside0.mk h
  have HB := Aside0.mk (S.bound h)
  have hu35 := Tryz.underlying48
  have t0 : (sp == 0) = true := by simp [h0]
  have t1 : decide (4096 ≤ p) = false := decide_eq_false (by omega)
  clear h h0
  go_enter Tryz.func40, Tryz.ntmps40
  go_wp2_with fail
  go_region
  go_wp2
  refine bodyPost_ret (results_tct rfl _ _ (w.heap.size + 1) 48 #[.int .i64 m, .int .i64 (p + 1), .int .i64 t, .int .i64 sp, .int .i64 r, .int .u64 ch] (0, 0) _ rfl ?_ Tryz.underlying48 rfl (by kernel_rfl)) rfl ?_
  · have := blk_new (w.alloc (.cells #[.int .i64 m, .int .i64 (p + 1), .int .i64 t, .int .i64 sp, .int .i64 r, .int .u64 ch] 48)) (.cells #[.int .i64 m, .int .i64 (p + 1), .int .i64 t, .int .i64 sp, .int .i64 r, .int .u64 ch] 48)
    refine blk_drew ?_
    simpa using this
  · exact ⟨rfl, F, Shop.below H.out (below_drew (below_alloc (below_alloc (Below.refl _ _) _) _)), fun k hk => Or.inl hk, (((Fr.refl F w).alloc _).alloc _).then_below (below_drew (Below.refl _ _))⟩
end Go.Proofs.YtonbipaajhokfaaGreatDoor
end
