/-
  Walk: the reference's Decode of layer 9.
-/
import Derived.Test.YtonbipaajhokfaaF2
import Derived.Test.YtonbipaajhokfaaB2
set_option linter.unusedVariables false
set_option linter.unusedSimpArgs false
namespace Go.Proofs.Ytonbipaajhokfaa
open Go.RowKit Go.Proofs.YtonbipaajhokfaaW.PrintWords Go.Proofs.YtonbipaajhokfaaW.PrintLast Go.Proofs.YtonbipaajhokfaaW.PrintMore

set_option maxHeartbeats 1000000 in
set_option maxRecDepth 100000 in
theorem refDecode_short (s : ByteArray) (w : World) (hs : s.size ≠ 232) :
    Calls Try.prog 15 #[.string s] w fun e w' => ∃ v, e = .returned (.tuple #[.agg #[.int .i64 0, v], .int .i64 1]) ∧ Kd.R (Kd.int .i64) 3 w' w.heap.size (fun _ => True) v [] ∧ Below w.heap.size w w' := by
  have t1 : ((s.size : Int) != 232) = true := by simp; omega
  have hu24 := Try.underlying24
  go_enter Try.func15, Try.ntmps15
  go_wp2
  refine bodyPost_ret (v := .tuple #[.agg #[.int .i64 0, .slice none 0 0], .int .i64 1]) (by simp [results, Try.results15, go_sem]) rfl ⟨_, rfl, Kd.R_nil _ _ _ _ _, ?_⟩
  exact below_alloc (Below.refl _ _) _

/-- More than fifty are read: neither Decode takes them. -/
theorem decs_short (s : List UInt8) (k m : Nat) (h : k ≤ m) : (decs s m).take k = decs s k := by
  unfold decs
  rw [← List.map_take, List.take_range, Nat.min_eq_left h]
theorem decOk_long (s : ByteArray) (k : Nat) (hk : k ≤ 56) (hs : s.size = 232) (hC : decC s.data.toList = min k 50) (c5 : Nat) (h5 : (s.data.toList.getD 5 0).toNat = c5) (hck : k = min c5 56) :
    decOk s.data.toList = (encOk (rd4 s.data.toList 1) (decs s.data.toList k) && (trunkPage (rd4 s.data.toList 1) (decs s.data.toList k) == s.data.toList)) := by
  by_cases h : k ≤ 50
  · unfold decOk decN decL
    rw [hC, Nat.min_eq_left h]
    rfl
  · have e1 : encOk (rd4 s.data.toList 1) (decs s.data.toList k) = false := by
      cases h2 : encOk (rd4 s.data.toList 1) (decs s.data.toList k) with
      | false => rfl
      | true => have := (encOk_parts.1 h2).2.1; rw [decs_length] at this; omega
    rw [e1, Bool.false_and]
    cases h3 : decOk s.data.toList with
    | false => rfl
    | true =>
      unfold decOk at h3
      rw [Bool.and_eq_true] at h3
      have h4 : trunkPage (decN s.data.toList) (decL s.data.toList) = s.data.toList := by simpa using h3.2
      have h6 := (encOk_parts.1 h3.1).2.1
      have h7 : (decL s.data.toList).length = 50 := by unfold decL; simp; rw [hC]; omega
      have h8 : ((trunkPage (decN s.data.toList) (decL s.data.toList)).getD 5 0).toNat = 50 := by
        rw [trunk_tail _ _ h6, h7]
        unfold trunkHead be4
        simp [List.getD_eq_getElem?_getD, by8]
      rw [h4, h5] at h8
      omega
theorem decL_long (s : ByteArray) (k : Nat) (h : decOk s.data.toList = true) (hC : decC s.data.toList = min k 50) (hn : ¬ (decC s.data.toList ≠ k)) : decL s.data.toList = decs s.data.toList k := by
  have : decC s.data.toList = k := by omega
  unfold decL decs
  rw [this]
theorem rd4_bd (l : List UInt8) (i : Nat) : 0 ≤ rd4 l i ∧ rd4 l i < 4294967296 := by
  unfold rd4
  have h := beV_bd ((l.drop i).take 4).length ((l.drop i).take 4) rfl
  have h4 : ((l.drop i).take 4).length ≤ 4 := by rw [List.length_take]; omega
  refine ⟨h.1, Int.lt_of_lt_of_le h.2 ?_⟩
  generalize ((l.drop i).take 4).length = n at h4
  rcases (by omega : n = 0 ∨ n = 1 ∨ n = 2 ∨ n = 3 ∨ n = 4) with rfl | rfl | rfl | rfl | rfl <;> decide
set_option maxHeartbeats 4000000 in
set_option maxRecDepth 100000 in
theorem refDecode_full (s : ByteArray) (w : World) (hs : s.size = 232) :
    Calls Try.prog 15 #[.string s] w fun e w' => ∃ v, e = .returned (.tuple #[.agg #[.int .i64 (decN1 s.data.toList), v], .int .i64 (decE1 s.data.toList)]) ∧
      Kd.R (Kd.int .i64) 3 w' w.heap.size (fun _ => True) v (decL1 s.data.toList) ∧ Below w.heap.size w w' := by
  have t1 : ((s.size : Int) != 232) = false := by simp; omega
  have hu24 := Try.underlying24
  go_enter Try.func15, Try.ntmps15
  have hun : ∀ i : Nat, i ≤ 228 → ∀ W, Calls Try.prog 42 #[.string (s.extract i (i + 4))] W fun e w' => e = .returned (.tuple #[.int .u64 (rd4 s.data.toList i), .int .i64 0]) ∧ Below W.heap.size W w' := fun i hi W => by
    have hx : (s.extract i (i + 4)).size = 4 := by rw [ByteArray.size_extract]; omega
    have := refUn_calls (s.extract i (i + 4)) W (by omega) (by omega)
    rw [extract_list, show i + 4 - i = 4 by omega] at this
    exact this
  have HUN := Aside0.mk hun
  have hbd : ∀ i, 0 ≤ rd4 s.data.toList i ∧ rd4 s.data.toList i < 4294967296 := fun i => rd4_bd s.data.toList i
  have HBD := Aside0.mk hbd
  clear hun hbd
  go_wp2_with fail
  have h0 := blk_new w (.cells #[.int .i64 0, .slice none 0 0] 24)
  have hB1 : Below w.heap.size w (w.alloc (.cells #[.int .i64 0, .slice none 0 0] 24)) := below_alloc (Below.refl _ _) _
  have hsz : w.heap.size < (w.alloc (.cells #[.int .i64 0, .slice none 0 0] 24)).heap.size := by simp
  generalize w.alloc (.cells #[.int .i64 0, .slice none 0 0] 24) = w1 at h0 hB1 hsz ⊢
  refine (HUN.out 1 (by omega) w1).mono ?_
  rintro e w2 ⟨rfl, hb2⟩
  obtain ⟨b, hb⟩ : ∃ b, b = w.heap.size := ⟨_, rfl⟩
  rw [← hb] at h0 hsz ⊢
  have hbs : w.heap.size ≤ b := by omega
  have HBE := Aside0.mk hb
  clear hb
  have H1 := Aside0.mk (blk_below h0 hb2)
  have HB1 := Aside0.mk (show Below b w w2 by rw [HBE.out]; exact hB1.trans (hb2.mono hB1.size))
  have hsz2 : b < w2.heap.size := blk_lt H1.out
  have h1b := HBD.out 1
  clear h0 hB1 hsz hb2
  obtain ⟨c5, hc5, hc5b⟩ : ∃ c5 : Nat, (∀ h : 5 < s.size, (s[5]'h).toNat = c5) ∧ c5 < 256 := ⟨(s[5]'(by omega)).toNat, fun _ => rfl, (s[5]'(by omega)).toNat_lt⟩
  have HC5 : Aside0 (decC s.data.toList = min c5 50) := ⟨by unfold decC; rw [byte_at s 5 (by omega), hc5 (by omega)]⟩
  go_wp2_with fail
  obtain ⟨g, hg⟩ : ∃ g, g = w2.heap.size := ⟨_, rfl⟩
  obtain ⟨w3, hw3⟩ : ∃ w3, w3 = w2.alloc (.cells #[.int .i64 (rd4 s.data.toList 1), .slice none 0 0] 24) := ⟨_, rfl⟩
  rw [← hw3, ← hg]
  have H5 := Aside0.mk (show w3.heap[g]? = some (.cells #[.int .i64 (rd4 s.data.toList 1), .slice none 0 0] 24 (0, 0)) by rw [hw3, hg]; exact blk_new w2 _)
  replace H1 := Aside0.mk (show w3.heap[b]? = some (.cells #[.int .i64 0, .slice none 0 0] 24 (0, 0)) by rw [hw3]; exact blk_alloc H1.out _)
  replace HB1 := Aside0.mk (show Below b w w3 by rw [hw3]; exact (HB1.out.mono (Nat.le_refl _)).alloc (by omega) _)
  have hsz3 : g < w3.heap.size := by rw [hw3, hg]; simp
  have hbg : b < g := by omega
  clear hw3 hg hsz2
  obtain ⟨C, hC⟩ : ∃ C, C = min c5 56 := ⟨_, rfl⟩
  go_loopw [7] (fun i wr => ∃ (k : Nat) (v : Value), k ≤ C ∧ i = .int .i64 k ∧ Aside0 (wr.heap[b]? = some (.cells #[.int .i64 0, .slice none 0 0] 24 (0, 0))) ∧
      Aside0 (wr.heap[g]? = some (.cells #[.int .i64 (rd4 s.data.toList 1), v] 24 (0, 0))) ∧ Aside0 (Kd.R (Kd.int .i64) 3 wr (g + 1) (fun _ => True) v (decs s.data.toList k)) ∧ Aside0 (g + 1 ≤ wr.heap.size) ∧ Aside0 (Below b w wr)) (fun i _ => C - (intOf i).toNat)
  case atStart => exact ⟨0, .slice none 0 0, Nat.zero_le _, rfl, H1, H5, ⟨Kd.R_nil _ _ _ _ _⟩, ⟨hsz3⟩, HB1⟩
  case round =>
    clear H1 H5 HB1 hsz3
    obtain ⟨k, v, hk, rfl, H1, H5, HR, HZ, HBw⟩ := hrel
    by_cases hlt : k < C
    · have t3 : decide ((k : Int) < (c5 : Int)) = true := decide_eq_true (by omega)
      have t4 : decide (10 + 4 * (k : Int) ≤ 232) = true := decide_eq_true (by omega)
      have hk56 : k < 56 := by omega
      have hg1 := (blk_cell H5.out 1).trans rfl
      go_wp2_with fail
      have hu := HUN.out (6 + 4 * k) (by omega) wr
      rw [show 6 + 4 * k + 4 = 10 + 4 * k by omega] at hu
      refine hu.mono ?_
      clear hu
      rintro e w4 ⟨rfl, hb4⟩
      obtain ⟨A, c, rfl⟩ := Kd.R_slice HR.out
      replace H1 := Aside0.mk (blk_below H1.out hb4)
      replace H5 := Aside0.mk (blk_below H5.out hb4)
      replace HR := Aside0.mk (Kd.R_below HR.out hb4)
      replace HBw := Aside0.mk (HBw.out.trans (hb4.mono (by have := HZ.out; omega)))
      replace HZ := Aside0.mk (Nat.le_trans HZ.out hb4.size)
      have hrb := HBD.out (6 + 4 * k)
      obtain ⟨x, hx⟩ : ∃ x, x = rd4 s.data.toList (6 + 4 * k) := ⟨_, rfl⟩
      rw [← hx] at hrb ⊢
      have HX := Aside0.mk hx
      have hlk : (decs s.data.toList k).length = k := decs_length _ _
      have HLK := Aside0.mk hlk
      obtain ⟨l, hl⟩ : ∃ l, l = decs s.data.toList k := ⟨_, rfl⟩
      rw [← hl] at HR hlk H5
      have HL := Aside0.mk hl
      have hll : l.length ≤ 56 := by omega
      have HLL := Aside0.mk hlk
      clear hb4 hg1 hx hl HLK hlk
      have hg1 : w4.cell? ⟨g, 1, none⟩ = some (.slice A l.length c) := (blk_cell H5.out 1).trans rfl
      have hgf : w4.frozen? ⟨g, 1, none⟩ = false := blk_frozen H5.out 1
      go_wp2_with (at_builtin; refine Kd.R_append (Kd.int .i64) (W := w4) (w0 := w4) (g + 1) rfl (.tmp 51) (.tmp 54) 22 3 (.int .i64 0) 8 rfl Try.underlying22 info3 rfl (by decide) (by decide) (.slice A l.length c) _ x [.int .i64 x] (fun _ => True) (fun k' => some k' ≠ (Value.slice A l.length c).ownBlock ∧ True) rfl (by show Value.slice (some ⟨w4.heap.size, 0, none⟩) 1 1 = _; simp) rfl (fun _ h => ⟨h.2, h.1⟩) (fun k' hk' => trivial) HR.out (Below.refl _ _) HZ.out (by omega) ?_; intro v7 w7 hR7 hB7 hG7 hat7; refine Shut.out ?_)
      unfold Shut
      obtain ⟨un, hun⟩ : ∃ un, un = l ++ [x] := ⟨_, rfl⟩
      rw [← hun] at hR7
      have HUL := Aside0.mk hun
      obtain ⟨A7, c7, rfl⟩ := Kd.R_slice hR7
      have hne5 := R_ne_blk HR.out H5.out (by decide)
      have hne1 := R_ne_blk HR.out H1.out (by decide)
      replace H5 := Aside0.mk (blk_grown H5.out hG7 hne5)
      replace H1 := Aside0.mk (blk_grown H1.out hG7 hne1)
      have HZ7 := Aside0.mk (Nat.le_trans HZ.out hG7.size)
      have HB7 := Aside0.mk (HBw.out.grown hG7 (by have := HZ.out; omega) (fun k' hk' => by have := Kd.R_base HR.out k' hk'; omega))
      have HR7 := Aside0.mk hR7
      clear hun hne5 hne1 hR7 hB7 hG7 hat7 hg1 hgf HR HBw HZ
      have hg1 : w7.cell? ⟨g, 1, none⟩ = some (.slice A l.length c) := (blk_cell H5.out 1).trans rfl
      have hgf : w7.frozen? ⟨g, 1, none⟩ = false := blk_frozen H5.out 1
      go_wp2
      go_roundw
      case measure => simp only [intOf]; omega
      case rel => exact ⟨k + 1, _, by omega, rfl, ⟨blk_far H1.out (show b ≠ g by omega) _⟩, ⟨blk_put H5.out 1 _ rfl⟩, ⟨by rw [decs_succ, ← HL.out, ← HX.out, ← HUL.out]; exact Kd.R_set HR7.out H5.out (fun q hq => by simp [Kd.int, Kd.scalar] at hq; omega) 1 _⟩, ⟨by simpa using HZ7.out⟩, ⟨HB7.out.setCell (show b ≤ g by omega) _⟩⟩
    · obtain ⟨A, c, rfl⟩ := Kd.R_slice HR.out
      obtain ⟨_, hcl, hCr⟩ := Kd.R_reads' HR.out
      have HCr := Aside0.mk hCr
      clear hCr
      have hcall := fun W => refEnc_calls (rd4 s.data.toList 1) A c (decs s.data.toList k) W
      have hlenE : (s.data.toList).length = 232 := by rw [data_length]; exact hs
      have HLE := Aside0.mk hlenE
      have hk56 : k ≤ 56 := by omega
      have HDO : Aside0 (decOk s.data.toList = (encOk (rd4 s.data.toList 1) (decs s.data.toList k) && (trunkPage (rd4 s.data.toList 1) (decs s.data.toList k) == s.data.toList))) := ⟨decOk_long s k (by omega) hs (by rw [HC5.out]; omega) c5 (by rw [byte_at s 5 (by omega), hc5 (by omega)]) (by omega)⟩
      have HDL : Aside0 (decOk s.data.toList = true → decL s.data.toList = decs s.data.toList k) := ⟨fun h => decL_long s k h (by rw [HC5.out]; omega) (by
        intro hn
        have h2 := HDO.out
        rw [h] at h2
        have h3 := (encOk_parts.1 (Bool.and_eq_true_iff.1 h2.symm).1).2.1
        rw [decs_length] at h3
        rw [HC5.out] at hn
        omega)⟩
      have hkc : c5 ≤ k ∨ (56 ≤ k ∧ k < c5) := by omega
      clear hlenE hC hlt
      have hcl2 := hcl
      rw [decs_length] at hcl2
      cases hok : encOk (rd4 s.data.toList 1) (decs s.data.toList k) with
      | false =>
        have HD := Aside0.mk (show decOk s.data.toList = false by rw [HDO.out, hok]; rfl)
        have hE : encE (rd4 s.data.toList 1) (decs s.data.toList k) = 1 := by unfold encE; rw [hok]; rfl
        have hEB : encB (rd4 s.data.toList 1) (decs s.data.toList k) = [] := by unfold encB; rw [hok]; rfl
        rw [hE, hEB] at hcall
        clear hok hE hEB
        have HCALL := Aside0.mk hcall
        clear hcall
        have hg0 : wr.cell? ⟨g, 0, none⟩ = some (.int .i64 (rd4 s.data.toList 1)) := (blk_cell H5.out 0).trans rfl
        have hg1 : wr.cell? ⟨g, 1, none⟩ = some (.slice A (decs s.data.toList k).length c) := (blk_cell H5.out 1).trans rfl
        rcases hkc with hkc | hkc
        · have t3 : decide ((k : Int) < (c5 : Int)) = false := decide_eq_false (by omega)
          go_wp2_with fail
          refine (HCALL.out _ HCr.out hcl).mono ?_
          rintro e w4 ⟨rfl, hb4⟩
          replace H1 := Aside0.mk (blk_below H1.out hb4)
          replace H5 := Aside0.mk (blk_below H5.out hb4)
          replace HR := Aside0.mk (Kd.R_below HR.out hb4)
          replace HBw := Aside0.mk (HBw.out.trans (hb4.mono (by have := HZ.out; omega)))
          clear hb4 HCr HCALL hg0 hg1
          have hg0 : w4.cell? ⟨g, 0, none⟩ = some (.int .i64 (rd4 s.data.toList 1)) := (blk_cell H5.out 0).trans rfl
          have hg1 : w4.cell? ⟨g, 1, none⟩ = some (.slice A (decs s.data.toList k).length c) := (blk_cell H5.out 1).trans rfl
          have hr0 : w4.cell? ⟨b, 0, none⟩ = some (.int .i64 0) := (blk_cell H1.out 0).trans rfl
          have hr1 : w4.cell? ⟨b, 1, none⟩ = some (.slice none 0 0) := (blk_cell H1.out 1).trans rfl
          have hf0 : w4.frozen? ⟨b, 0, none⟩ = false := blk_frozen H1.out 0
          have hf1 : w4.frozen? ⟨b, 1, none⟩ = false := blk_frozen H1.out 1
          go_wp2
          refine bodyPost_ret (results_ct rfl _ _ b 24 #[.int .i64 0, .slice none 0 0] (0, 0) _ rfl ?_ Try.underlying24 rfl (by kernel_rfl)) rfl ?_
          · exact blk_put (blk_put H1.out 0 _ rfl) 1 _ rfl
          · have e1 : decN1 s.data.toList = 0 := by unfold decN1; rw [HD.out]; simp
            have e2 : decL1 s.data.toList = [] := by unfold decL1; rw [HD.out]; simp
            have e3 : decE1 s.data.toList = 4 := by unfold decE1; rw [if_pos HLE.out, HD.out]; rfl
            rw [e1, e2, e3]
            exact ⟨_, rfl, Kd.R_nil _ _ _ _ _, ((HBw.out.setCell (Nat.le_refl _) _).setCell (Nat.le_refl _) _).mono hbs⟩
        · have t3 : decide ((k : Int) < (c5 : Int)) = true := decide_eq_true (by omega)
          have t4 : decide (10 + 4 * (k : Int) ≤ 232) = false := decide_eq_false (by omega)
          go_wp2_with fail
          refine (HCALL.out _ HCr.out hcl).mono ?_
          rintro e w4 ⟨rfl, hb4⟩
          replace H1 := Aside0.mk (blk_below H1.out hb4)
          replace H5 := Aside0.mk (blk_below H5.out hb4)
          replace HR := Aside0.mk (Kd.R_below HR.out hb4)
          replace HBw := Aside0.mk (HBw.out.trans (hb4.mono (by have := HZ.out; omega)))
          clear hb4 HCr HCALL hg0 hg1
          have hg0 : w4.cell? ⟨g, 0, none⟩ = some (.int .i64 (rd4 s.data.toList 1)) := (blk_cell H5.out 0).trans rfl
          have hg1 : w4.cell? ⟨g, 1, none⟩ = some (.slice A (decs s.data.toList k).length c) := (blk_cell H5.out 1).trans rfl
          have hr0 : w4.cell? ⟨b, 0, none⟩ = some (.int .i64 0) := (blk_cell H1.out 0).trans rfl
          have hr1 : w4.cell? ⟨b, 1, none⟩ = some (.slice none 0 0) := (blk_cell H1.out 1).trans rfl
          have hf0 : w4.frozen? ⟨b, 0, none⟩ = false := blk_frozen H1.out 0
          have hf1 : w4.frozen? ⟨b, 1, none⟩ = false := blk_frozen H1.out 1
          go_wp2
          refine bodyPost_ret (results_ct rfl _ _ b 24 #[.int .i64 0, .slice none 0 0] (0, 0) _ rfl ?_ Try.underlying24 rfl (by kernel_rfl)) rfl ?_
          · exact blk_put (blk_put H1.out 0 _ rfl) 1 _ rfl
          · have e1 : decN1 s.data.toList = 0 := by unfold decN1; rw [HD.out]; simp
            have e2 : decL1 s.data.toList = [] := by unfold decL1; rw [HD.out]; simp
            have e3 : decE1 s.data.toList = 4 := by unfold decE1; rw [if_pos HLE.out, HD.out]; rfl
            rw [e1, e2, e3]
            exact ⟨_, rfl, Kd.R_nil _ _ _ _ _, ((HBw.out.setCell (Nat.le_refl _) _).setCell (Nat.le_refl _) _).mono hbs⟩
      | true =>
        have hE : encE (rd4 s.data.toList 1) (decs s.data.toList k) = 0 := by unfold encE; rw [hok]; rfl
        have hEB : encB (rd4 s.data.toList 1) (decs s.data.toList k) = trunkPage (rd4 s.data.toList 1) (decs s.data.toList k) := by unfold encB; rw [hok]; rfl
        rw [hE, hEB] at hcall
        clear hE hEB
        have HCALL := Aside0.mk hcall
        have HOK := Aside0.mk hok
        clear hcall hok
        have hg0 : wr.cell? ⟨g, 0, none⟩ = some (.int .i64 (rd4 s.data.toList 1)) := (blk_cell H5.out 0).trans rfl
        have hg1 : wr.cell? ⟨g, 1, none⟩ = some (.slice A (decs s.data.toList k).length c) := (blk_cell H5.out 1).trans rfl
        rcases hkc with hkc | hkc
        · have t3 : decide ((k : Int) < (c5 : Int)) = false := decide_eq_false (by omega)
          go_wp2_with fail
          refine (HCALL.out _ HCr.out hcl).mono ?_
          rintro e w4 ⟨rfl, hb4⟩
          replace H1 := Aside0.mk (blk_below H1.out hb4)
          replace H5 := Aside0.mk (blk_below H5.out hb4)
          replace HR := Aside0.mk (Kd.R_below HR.out hb4)
          replace HBw := Aside0.mk (HBw.out.trans (hb4.mono (by have := HZ.out; omega)))
          clear hb4 HCr HCALL hg0 hg1
          have hg0 : w4.cell? ⟨g, 0, none⟩ = some (.int .i64 (rd4 s.data.toList 1)) := (blk_cell H5.out 0).trans rfl
          have hg1 : w4.cell? ⟨g, 1, none⟩ = some (.slice A (decs s.data.toList k).length c) := (blk_cell H5.out 1).trans rfl
          have hr0 : w4.cell? ⟨b, 0, none⟩ = some (.int .i64 0) := (blk_cell H1.out 0).trans rfl
          have hr1 : w4.cell? ⟨b, 1, none⟩ = some (.slice none 0 0) := (blk_cell H1.out 1).trans rfl
          have hf0 : w4.frozen? ⟨b, 0, none⟩ = false := blk_frozen H1.out 0
          have hf1 : w4.frozen? ⟨b, 1, none⟩ = false := blk_frozen H1.out 1
          go_wp2
          · have hne : (!(bs (trunkPage (rd4 s.data.toList 1) (decs s.data.toList k))).toList == s.toList) = true := by assumption
            have HD := Aside0.mk (show decOk s.data.toList = false by
              rw [ByteArray.toList_eq, ByteArray.toList_eq, bs_list] at hne
              have h2 : trunkPage (rd4 s.data.toList 1) (decs s.data.toList k) ≠ s.data.toList := by simpa using hne
              rw [HDO.out, HOK.out]; simp [h2])
            refine bodyPost_ret (results_ct rfl _ _ b 24 #[.int .i64 0, .slice none 0 0] (0, 0) _ rfl ?_ Try.underlying24 rfl (by kernel_rfl)) rfl ?_
            · exact blk_put (blk_put H1.out 0 _ rfl) 1 _ rfl
            · have e1 : decN1 s.data.toList = 0 := by unfold decN1; rw [HD.out]; simp
              have e2 : decL1 s.data.toList = [] := by unfold decL1; rw [HD.out]; simp
              have e3 : decE1 s.data.toList = 4 := by unfold decE1; rw [if_pos HLE.out, HD.out]; rfl
              rw [e1, e2, e3]
              exact ⟨_, rfl, Kd.R_nil _ _ _ _ _, ((HBw.out.setCell (Nat.le_refl _) _).setCell (Nat.le_refl _) _).mono hbs⟩
          · have heq : (!(bs (trunkPage (rd4 s.data.toList 1) (decs s.data.toList k))).toList == s.toList) = false := by assumption
            have HD := Aside0.mk (show decOk s.data.toList = true by
              rw [ByteArray.toList_eq, ByteArray.toList_eq, bs_list] at heq
              have h2 : trunkPage (rd4 s.data.toList 1) (decs s.data.toList k) = s.data.toList := by simpa using heq
              rw [HDO.out, HOK.out, h2]; simp)
            refine bodyPost_ret (results_ct rfl _ _ b 24 #[.int .i64 (rd4 s.data.toList 1), .slice A (decs s.data.toList k).length c] (0, 0) _ rfl ?_ Try.underlying24 rfl (by kernel_rfl)) rfl ?_
            · exact blk_put (blk_put H1.out 0 _ rfl) 1 _ rfl
            · have e1 : decN1 s.data.toList = rd4 s.data.toList 1 := by unfold decN1; rw [HD.out]; simp [HLE.out, decN]
              have e2 : decL1 s.data.toList = decs s.data.toList k := by unfold decL1; rw [if_pos ⟨HLE.out, HD.out⟩]; exact HDL.out HD.out
              have e3 : decE1 s.data.toList = 0 := by unfold decE1; rw [if_pos HLE.out, HD.out]; rfl
              rw [e1, e2, e3]
              refine ⟨_, rfl, ?_, ((HBw.out.setCell (Nat.le_refl _) _).setCell (Nat.le_refl _) _).mono hbs⟩
              have h4 := Kd.R_set HR.out H1.out (fun q hq => by simp [Kd.int, Kd.scalar] at hq; omega) 0 (.int .i64 (rd4 s.data.toList 1))
              exact Kd.R_lower (Kd.R_set h4 (blk_put H1.out 0 _ rfl) (fun q hq => by simp [Kd.int, Kd.scalar] at hq; omega) 1 _) (by omega)
        · have t3 : decide ((k : Int) < (c5 : Int)) = true := decide_eq_true (by omega)
          have t4 : decide (10 + 4 * (k : Int) ≤ 232) = false := decide_eq_false (by omega)
          go_wp2_with fail
          refine (HCALL.out _ HCr.out hcl).mono ?_
          rintro e w4 ⟨rfl, hb4⟩
          replace H1 := Aside0.mk (blk_below H1.out hb4)
          replace H5 := Aside0.mk (blk_below H5.out hb4)
          replace HR := Aside0.mk (Kd.R_below HR.out hb4)
          replace HBw := Aside0.mk (HBw.out.trans (hb4.mono (by have := HZ.out; omega)))
          clear hb4 HCr HCALL hg0 hg1
          have hg0 : w4.cell? ⟨g, 0, none⟩ = some (.int .i64 (rd4 s.data.toList 1)) := (blk_cell H5.out 0).trans rfl
          have hg1 : w4.cell? ⟨g, 1, none⟩ = some (.slice A (decs s.data.toList k).length c) := (blk_cell H5.out 1).trans rfl
          have hr0 : w4.cell? ⟨b, 0, none⟩ = some (.int .i64 0) := (blk_cell H1.out 0).trans rfl
          have hr1 : w4.cell? ⟨b, 1, none⟩ = some (.slice none 0 0) := (blk_cell H1.out 1).trans rfl
          have hf0 : w4.frozen? ⟨b, 0, none⟩ = false := blk_frozen H1.out 0
          have hf1 : w4.frozen? ⟨b, 1, none⟩ = false := blk_frozen H1.out 1
          go_wp2
          · have hne : (!(bs (trunkPage (rd4 s.data.toList 1) (decs s.data.toList k))).toList == s.toList) = true := by assumption
            have HD := Aside0.mk (show decOk s.data.toList = false by
              rw [ByteArray.toList_eq, ByteArray.toList_eq, bs_list] at hne
              have h2 : trunkPage (rd4 s.data.toList 1) (decs s.data.toList k) ≠ s.data.toList := by simpa using hne
              rw [HDO.out, HOK.out]; simp [h2])
            refine bodyPost_ret (results_ct rfl _ _ b 24 #[.int .i64 0, .slice none 0 0] (0, 0) _ rfl ?_ Try.underlying24 rfl (by kernel_rfl)) rfl ?_
            · exact blk_put (blk_put H1.out 0 _ rfl) 1 _ rfl
            · have e1 : decN1 s.data.toList = 0 := by unfold decN1; rw [HD.out]; simp
              have e2 : decL1 s.data.toList = [] := by unfold decL1; rw [HD.out]; simp
              have e3 : decE1 s.data.toList = 4 := by unfold decE1; rw [if_pos HLE.out, HD.out]; rfl
              rw [e1, e2, e3]
              exact ⟨_, rfl, Kd.R_nil _ _ _ _ _, ((HBw.out.setCell (Nat.le_refl _) _).setCell (Nat.le_refl _) _).mono hbs⟩
          · have heq : (!(bs (trunkPage (rd4 s.data.toList 1) (decs s.data.toList k))).toList == s.toList) = false := by assumption
            have HD := Aside0.mk (show decOk s.data.toList = true by
              rw [ByteArray.toList_eq, ByteArray.toList_eq, bs_list] at heq
              have h2 : trunkPage (rd4 s.data.toList 1) (decs s.data.toList k) = s.data.toList := by simpa using heq
              rw [HDO.out, HOK.out, h2]; simp)
            refine bodyPost_ret (results_ct rfl _ _ b 24 #[.int .i64 (rd4 s.data.toList 1), .slice A (decs s.data.toList k).length c] (0, 0) _ rfl ?_ Try.underlying24 rfl (by kernel_rfl)) rfl ?_
            · exact blk_put (blk_put H1.out 0 _ rfl) 1 _ rfl
            · have e1 : decN1 s.data.toList = rd4 s.data.toList 1 := by unfold decN1; rw [HD.out]; simp [HLE.out, decN]
              have e2 : decL1 s.data.toList = decs s.data.toList k := by unfold decL1; rw [if_pos ⟨HLE.out, HD.out⟩]; exact HDL.out HD.out
              have e3 : decE1 s.data.toList = 0 := by unfold decE1; rw [if_pos HLE.out, HD.out]; rfl
              rw [e1, e2, e3]
              refine ⟨_, rfl, ?_, ((HBw.out.setCell (Nat.le_refl _) _).setCell (Nat.le_refl _) _).mono hbs⟩
              have h4 := Kd.R_set HR.out H1.out (fun q hq => by simp [Kd.int, Kd.scalar] at hq; omega) 0 (.int .i64 (rd4 s.data.toList 1))
              exact Kd.R_lower (Kd.R_set h4 (blk_put H1.out 0 _ rfl) (fun q hq => by simp [Kd.int, Kd.scalar] at hq; omega) 1 _) (by omega)
end Go.Proofs.Ytonbipaajhokfaa
