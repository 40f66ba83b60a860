/-
  Plain: what the reference's Encode of layer 9 answers.
-/
import Derived.Test.YtonbipaajhokfaaF0
import Derived.Test.YtonbipaajhokfaaKE
import Derived.Test.YtonbipaajhokfaaKB
import Derived.Test.YtonbipaajhokfaaC4
set_option linter.unusedVariables false
set_option linter.unusedSimpArgs false
namespace Go.Proofs.Ytonbipaajhokfaa
open Go.RowKit Go.Proofs.YtonbipaajhokfaaW.PrintWords Go.Proofs.YtonbipaajhokfaaW.PrintLast Go.Proofs.YtonbipaajhokfaaW.PrintMore

theorem shr24 (n : Int) : shr .u64 n 24 = n / 256 / 256 / 256 := by
  show n / 2 ^ 24 = _
  rw [Int.ediv_ediv_of_nonneg (by decide), Int.ediv_ediv_of_nonneg (by decide)]
  rfl
theorem shr16 (n : Int) : shr .u64 n 16 = n / 256 / 256 := by
  show n / 2 ^ 16 = _
  rw [Int.ediv_ediv_of_nonneg (by decide)]
  rfl
theorem shr8 (n : Int) : shr .u64 n 8 = n / 256 := rfl
theorem shr0 (n : Int) : shr .u64 n 0 = n := by
  show n / 2 ^ 0 = n
  simp
theorem refFixed4 (k : Nat) (n : Int) : PSparePages.cahierref01_Fixed.f (k + 7) n 4 = some (bs (be4 n)) := by
  unfold PSparePages.cahierref01_Fixed.f
  simp only [PSparePages.cahierref01_Fixed.j0, PSparePages.cahierref01_Fixed.j1, PSparePages.cahierref01_Fixed.l0, wrap64, Int.reduceLT, if_false, gt_iff_lt, ge_iff_le, Int.reduceSub, Int.reduceAdd, Int.reduceMod, Int.reduceLE, if_true, Int.reduceMul, List.length_nil, List.nil_append, List.length_cons, List.cons_append, Nat.reduceAdd, Nat.reduceLeDiff, Nat.reduceLT, Int.reduceNeg]
  rw [shr24, shr16, shr8, shr0]
  rfl
theorem refFixed1 (k : Nat) (n : Int) : PSparePages.cahierref01_Fixed.f (k + 7) n 1 = some (bs [by8 n]) := by
  unfold PSparePages.cahierref01_Fixed.f
  simp only [PSparePages.cahierref01_Fixed.j0, PSparePages.cahierref01_Fixed.j1, PSparePages.cahierref01_Fixed.l0, wrap64, Int.reduceLT, if_false, gt_iff_lt, ge_iff_le, Int.reduceSub, Int.reduceAdd, Int.reduceMod, Int.reduceLE, if_true, Int.reduceMul, List.length_nil, List.nil_append, List.length_cons, List.cons_append, Nat.reduceAdd, Nat.reduceLeDiff, Nat.reduceLT, Int.reduceNeg]
  rw [shr0]
  rfl
theorem refFull (s : ByteArray) : PSparePages.cahierref04_Full.f s = some (bs (fullL s.data.toList)) := full_f s

theorem refEnc_l0 (next : Int) (l : List Int) (h50 : l.length ≤ 50) : ∀ (d j : Nat), j + d = l.length → ∀ k, RefNine.cahierref09_Encode.l0 (k + d + 9) (bs (trunkHead next l.length ++ be4s (l.take j))) (j : Int) next l =
    (if (l.drop j).any oddB then some (⟨#[]⟩, 1) else some (bs (trunkPage next l), 0)) := by
  intro d
  induction d with
  | zero =>
    intro j hj k
    have e1 : l.drop j = [] := List.drop_eq_nil_of_le (by omega)
    have e2 : l.take j = l := List.take_of_length_le (by omega)
    rw [e1, e2]
    unfold RefNine.cahierref09_Encode.l0
    rw [if_neg (by omega), refFull, bs_list]
    show some (bs (fullL (trunkHead next l.length ++ be4s l)), (0 : Int)) = some (bs (trunkPage next l), 0)
    congr 3
    rw [trunk_tail next l h50]
    unfold fullL
    have h6 : (trunkHead next l.length ++ be4s l).length = 6 + 4 * l.length := by simp [trunkHead, be4_length, be4s_length]; omega
    rw [h6, List.take_of_length_le (by omega)]
    congr 2
    omega
  | succ d ih =>
    intro j hj k
    have hjl : j < l.length := by omega
    have e1 : l.drop j = l.getD j 0 :: l.drop (j + 1) := by
      rw [List.getD_eq_getElem?_getD, List.getElem?_eq_getElem hjl]
      exact List.drop_eq_getElem_cons hjl
    have erd : rd l (j : Int) = l.getD j 0 := by simp [rd]
    unfold RefNine.cahierref09_Encode.l0
    rw [if_pos (by omega), if_pos (by omega), erd, e1, List.any_cons]
    generalize hx : l.getD j 0 = x
    by_cases h1 : x < 1
    · rw [if_pos h1, oddB_lo h1]; simp
    · rw [if_neg h1]
      by_cases h2 : x > 4095
      · rw [if_pos h2, oddB_hi (by omega)]; simp
      · rw [if_neg h2, oddB_no (by omega) (by omega), show k + (d + 1) + 8 = (k + d + 2) + 7 by omega, refFixed4, u64_same (by omega) (by omega)]
        simp only [Option.bind_some, Bool.false_or]
        rw [bs_size, bs_size, be4_length, if_pos (by simp [trunkHead, be4_length, be4s_length]; omega)]
        have hw : wrap64 ((j : Int) + 1) = ((j + 1 : Nat) : Int) := by unfold wrap64; omega
        rw [hw, bs_append, List.append_assoc, ← hx, ← be4s_take_succ l j hjl, show (k + d + 2) + 7 = k + d + 9 by omega]
        exact ih (j + 1) (by omega) k
theorem refEnc (next : Int) (l : List Int) (k : Nat) : RefNine.cahierref09_Encode.f (k + l.length + 10) next l = some (bs (encB next l), encE next l) := by
  unfold RefNine.cahierref09_Encode.f encB encE
  by_cases h1 : next < 0
  · have ho : encOk next l = false := by
      cases h : encOk next l with
      | false => rfl
      | true => have := (encOk_parts.1 h).1; omega
    rw [if_pos h1, ho]
    rfl
  · rw [if_neg h1]
    by_cases h2 : next > 4095
    · have ho : encOk next l = false := by
        cases h : encOk next l with
        | false => rfl
        | true => have := (encOk_parts.1 h).1; omega
      rw [if_pos h2, ho]
      rfl
    · rw [if_neg h2]
      by_cases h3 : (l.length : Int) > 50
      · have ho : encOk next l = false := by
          cases h : encOk next l with
          | false => rfl
          | true => have := (encOk_parts.1 h).2.1; omega
        rw [decide_eq_true h3, ho]
        rfl
      · rw [decide_eq_false h3]
        rw [show k + l.length + 10 = ((k + l.length + 2) + 7) + 1 by omega]
        rw [RefNine.cahierref09_Encode.j0]
        rw [if_neg (show ¬ (false = true) from Bool.false_ne_true), refFixed4, refFixed1, u64_same (by omega) (by omega), u64_same (by omega) (by omega)]
        simp only [Option.bind_some]
        rw [bs_size, be4_length, if_pos (by decide), ByteArray.size_append, bs_size, bs_size, be4_length, if_pos (show (⟨#[4]⟩ : ByteArray).size + 4 + [by8 (l.length : Int)].length ≤ 9223372036854775807 by show 1 + 4 + 1 ≤ 9223372036854775807; decide)]
        have e0 : (⟨#[4]⟩ : ByteArray) ++ bs (be4 next) ++ bs [by8 (l.length : Int)] = bs (trunkHead next l.length ++ be4s (l.take 0)) := by
          rw [show (⟨#[4]⟩ : ByteArray) = bs [4] from rfl, bs_append, bs_append]
          simp [trunkHead, be4s]
        rw [e0, show k + l.length + 9 = k + l.length + 9 from rfl]
        have := refEnc_l0 next l (by omega) l.length 0 (by omega) k
        rw [show ((0 : Nat) : Int) = 0 from rfl] at this
        rw [this, List.drop_zero]
        cases ha : l.any oddB with
        | true =>
          have ho : encOk next l = false := by unfold encOk; rw [ha]; simp
          rw [ho]
          rfl
        | false =>
          have ho : encOk next l = true := by
            refine encOk_parts.2 ⟨by omega, by omega, fun x hx => ?_⟩
            have := List.any_eq_false.1 ha x hx
            simp only [oddB, Bool.or_eq_true, decide_eq_true_eq] at this
            omega
          rw [ho]
          rfl
theorem refEnc_calls (next : Int) (A : Option Addr) (c : Nat) (l : List Int) (w : World) (hl : Kd.C (Kd.int .i64) w A l.length l) (hlc : l.length ≤ c) :
    Calls Try.prog 13 #[.agg #[.int .i64 next, .slice A l.length c]] w fun e w' => e = .returned (.tuple #[.string (bs (encB next l)), .int .i64 (encE next l)]) ∧ Below w.heap.size w w' :=
  RefNine.cahierref09_Encode.calls (0 + l.length + 10) next A c l _ _ w hl hlc (refEnc next l 0)
end Go.Proofs.Ytonbipaajhokfaa
/-
  Plain: what the reference's Unfixed answers.
-/
set_option linter.unusedVariables false
set_option linter.unusedSimpArgs false
namespace Go.Proofs.Ytonbipaajhokfaa
open Go.RowKit Go.Proofs.YtonbipaajhokfaaW.PrintWords Go.Proofs.YtonbipaajhokfaaW.PrintLast Go.Proofs.YtonbipaajhokfaaW.PrintMore

theorem or_byte (m b : Nat) (hm : m < 72057594037927936) (hb : b < 256) : Go.bits .or .u64 ((m : Int) * 256) (b : Int) = (m : Int) * 256 + b := by
  have e1 : BitVec.ofInt 64 ((m : Int) * 256) = BitVec.ofNat 64 (2 ^ 8 * m) := by
    rw [show (m : Int) * 256 = ((2 ^ 8 * m : Nat) : Int) by omega]
    exact BitVec.ofInt_natCast ..
  have e2 : BitVec.ofInt 64 (b : Int) = BitVec.ofNat 64 b := BitVec.ofInt_natCast ..
  show IntKind.u64.wrap (((BitVec.ofInt 64 ((m : Int) * 256) ||| BitVec.ofInt 64 (b : Int)).toNat : Nat) : Int) = _
  rw [e1, e2, BitVec.toNat_or, BitVec.toNat_ofNat, BitVec.toNat_ofNat, Nat.mod_eq_of_lt (by omega), Nat.mod_eq_of_lt (by omega), ← Nat.two_pow_add_eq_or_of_lt (by omega) m, IntKind.wrap_u64]
  omega

theorem refUn_l0 (s : ByteArray) (h8 : s.size ≤ 8) : ∀ (d j : Nat), j + d = s.size → ∀ k, RefNine.cahierref01_Unfixed.l0 (k + d + 1) s (beV (s.data.toList.take j)) (j : Int) = some (beV s.data.toList, 0) := by
  intro d
  induction d with
  | zero =>
    intro j hj k
    rw [RefNine.cahierref01_Unfixed.l0, if_neg (by omega), List.take_of_length_le (by rw [data_length]; omega)]
  | succ d ih =>
    intro j hj k
    have hb := beV_take_bd s.data.toList j (by rw [data_length]; omega) (by rw [data_length]; omega)
    have hn := beV_take_succ s.data.toList j (by rw [data_length]; omega)
    have hbt : bt s (j : Int) = ((s.data.toList.getD j 0).toNat : Int) := by
      rw [byte_at s j (by omega)]
      unfold bt
      rw [dif_pos (by simp; omega)]
      simp
    have hlt := (s.data.toList.getD j 0).toNat_lt
    obtain ⟨m, hm⟩ : ∃ m : Nat, beV (s.data.toList.take j) = m := ⟨(beV (s.data.toList.take j)).toNat, by omega⟩
    rw [RefNine.cahierref01_Unfixed.l0, if_pos (by omega), if_pos (by omega), hbt]
    have h1 : IntKind.u64.wrap (beV (s.data.toList.take j) * 256) = (m : Int) * 256 := by rw [IntKind.wrap_u64]; omega
    have h2 : IntKind.u64.wrap ((s.data.toList.getD j 0).toNat : Int) = ((s.data.toList.getD j 0).toNat : Int) := by rw [IntKind.wrap_u64]; omega
    rw [h1, h2, or_byte m _ (by omega) hlt]
    have hw : wrap64 ((j : Int) + 1) = ((j + 1 : Nat) : Int) := by unfold wrap64; omega
    rw [hw, ← hm, ← hn]
    exact ih (j + 1) (by omega) k
theorem refUn (s : ByteArray) (h1 : 1 ≤ s.size) (h8 : s.size ≤ 8) : RefNine.cahierref01_Unfixed.f (s.size + 2) s = some (beV s.data.toList, 0) := by
  unfold RefNine.cahierref01_Unfixed.f
  rw [if_neg (by omega), decide_eq_false (by omega), RefNine.cahierref01_Unfixed.j0, if_neg (show ¬ (false = true) from Bool.false_ne_true)]
  have := refUn_l0 s h8 s.size 0 (by omega) 0
  rw [show 0 + s.size + 1 = s.size + 1 by omega] at this
  exact this
theorem refUn_calls (s : ByteArray) (w : World) (h1 : 1 ≤ s.size) (h8 : s.size ≤ 8) :
    Calls Try.prog 42 #[.string s] w fun e w' => e = .returned (.tuple #[.int .u64 (beV s.data.toList), .int .i64 0]) ∧ Below w.heap.size w w' :=
  (RefNine.cahierref01_Unfixed.calls (s.size + 2) s _ _ w (refUn s h1 h8)).mono fun _ _ h => ⟨h.1, h.2.below⟩
end Go.Proofs.Ytonbipaajhokfaa
/-
  Walk: the reference's Decode of layer 9.
-/
set_option linter.unusedVariables false
set_option linter.unusedSimpArgs false
namespace Go.Proofs.Ytonbipaajhokfaa
open Go.RowKit Go.Proofs.YtonbipaajhokfaaW.PrintWords Go.Proofs.YtonbipaajhokfaaW.PrintLast Go.Proofs.YtonbipaajhokfaaW.PrintMore

set_option maxHeartbeats 1000000 in
set_option maxRecDepth 100000 in
theorem refDecode_short (s : ByteArray) (w : World) (hs : s.size ≠ 232) :
    Calls Try.prog 15 #[.string s] w fun e w' => ∃ v, e = .returned (.tuple #[.agg #[.int .i64 0, v], .int .i64 1]) ∧ Kd.R (Kd.int .i64) 3 w' w.heap.size (fun _ => True) v [] ∧ Below w.heap.size w w' := by
  have t1 : ((s.size : Int) != 232) = true := by simp; omega
  have hu24 := Try.underlying24
  go_enter Try.func15, Try.ntmps15
  go_wp2
  refine bodyPost_ret (v := .tuple #[.agg #[.int .i64 0, .slice none 0 0], .int .i64 1]) (by simp [results, Try.results15, go_sem]) rfl ⟨_, rfl, Kd.R_nil _ _ _ _ _, ?_⟩
  exact below_alloc (Below.refl _ _) _

/-- More than fifty are read: neither Decode takes them. -/
theorem decs_short (s : List UInt8) (k m : Nat) (h : k ≤ m) : (decs s m).take k = decs s k := by
  unfold decs
  rw [← List.map_take, List.take_range, Nat.min_eq_left h]
theorem decOk_long (s : ByteArray) (k : Nat) (hk : k ≤ 56) (hs : s.size = 232) (hC : decC s.data.toList = min k 50) (c5 : Nat) (h5 : (s.data.toList.getD 5 0).toNat = c5) (hck : k = min c5 56) :
    decOk s.data.toList = (encOk (rd4 s.data.toList 1) (decs s.data.toList k) && (trunkPage (rd4 s.data.toList 1) (decs s.data.toList k) == s.data.toList)) := by
  by_cases h : k ≤ 50
  · unfold decOk decN decL
    rw [hC, Nat.min_eq_left h]
    rfl
  · have e1 : encOk (rd4 s.data.toList 1) (decs s.data.toList k) = false := by
      cases h2 : encOk (rd4 s.data.toList 1) (decs s.data.toList k) with
      | false => rfl
      | true => have := (encOk_parts.1 h2).2.1; rw [decs_length] at this; omega
    rw [e1, Bool.false_and]
    cases h3 : decOk s.data.toList with
    | false => rfl
    | true =>
      unfold decOk at h3
      rw [Bool.and_eq_true] at h3
      have h4 : trunkPage (decN s.data.toList) (decL s.data.toList) = s.data.toList := by simpa using h3.2
      have h6 := (encOk_parts.1 h3.1).2.1
      have h7 : (decL s.data.toList).length = 50 := by unfold decL; simp; rw [hC]; omega
      have h8 : ((trunkPage (decN s.data.toList) (decL s.data.toList)).getD 5 0).toNat = 50 := by
        rw [trunk_tail _ _ h6, h7]
        unfold trunkHead be4
        simp [List.getD_eq_getElem?_getD, by8]
      rw [h4, h5] at h8
      omega
theorem decL_long (s : ByteArray) (k : Nat) (h : decOk s.data.toList = true) (hC : decC s.data.toList = min k 50) (hn : ¬ (decC s.data.toList ≠ k)) : decL s.data.toList = decs s.data.toList k := by
  have : decC s.data.toList = k := by omega
  unfold decL decs
  rw [this]
theorem rd4_bd (l : List UInt8) (i : Nat) : 0 ≤ rd4 l i ∧ rd4 l i < 4294967296 := by
  unfold rd4
  have h := beV_bd ((l.drop i).take 4).length ((l.drop i).take 4) rfl
  have h4 : ((l.drop i).take 4).length ≤ 4 := by rw [List.length_take]; omega
  refine ⟨h.1, Int.lt_of_lt_of_le h.2 ?_⟩
  generalize ((l.drop i).take 4).length = n at h4
  rcases (by omega : n = 0 ∨ n = 1 ∨ n = 2 ∨ n = 3 ∨ n = 4) with rfl | rfl | rfl | rfl | rfl <;> decide
set_option maxHeartbeats 4000000 in
set_option maxRecDepth 100000 in
theorem refDecode_full (s : ByteArray) (w : World) (hs : s.size = 232) :
    Calls Try.prog 15 #[.string s] w fun e w' => ∃ v, e = .returned (.tuple #[.agg #[.int .i64 (decN1 s.data.toList), v], .int .i64 (decE1 s.data.toList)]) ∧
      Kd.R (Kd.int .i64) 3 w' w.heap.size (fun _ => True) v (decL1 s.data.toList) ∧ Below w.heap.size w w' := by
  have t1 : ((s.size : Int) != 232) = false := by simp; omega
  have hu24 := Try.underlying24
  go_enter Try.func15, Try.ntmps15
  have hun : ∀ i : Nat, i ≤ 228 → ∀ W, Calls Try.prog 42 #[.string (s.extract i (i + 4))] W fun e w' => e = .returned (.tuple #[.int .u64 (rd4 s.data.toList i), .int .i64 0]) ∧ Below W.heap.size W w' := fun i hi W => by
    have hx : (s.extract i (i + 4)).size = 4 := by rw [ByteArray.size_extract]; omega
    have := refUn_calls (s.extract i (i + 4)) W (by omega) (by omega)
    rw [extract_list, show i + 4 - i = 4 by omega] at this
    exact this
  have HUN := Aside0.mk hun
  have hbd : ∀ i, 0 ≤ rd4 s.data.toList i ∧ rd4 s.data.toList i < 4294967296 := fun i => rd4_bd s.data.toList i
  have HBD := Aside0.mk hbd
  clear hun hbd
  go_wp2_with fail
  have h0 := blk_new w (.cells #[.int .i64 0, .slice none 0 0] 24)
  have hB1 : Below w.heap.size w (w.alloc (.cells #[.int .i64 0, .slice none 0 0] 24)) := below_alloc (Below.refl _ _) _
  have hsz : w.heap.size < (w.alloc (.cells #[.int .i64 0, .slice none 0 0] 24)).heap.size := by simp
  generalize w.alloc (.cells #[.int .i64 0, .slice none 0 0] 24) = w1 at h0 hB1 hsz ⊢
  refine (HUN.out 1 (by omega) w1).mono ?_
  rintro e w2 ⟨rfl, hb2⟩
  obtain ⟨b, hb⟩ : ∃ b, b = w.heap.size := ⟨_, rfl⟩
  rw [← hb] at h0 hsz ⊢
  have hbs : w.heap.size ≤ b := by omega
  have HBE := Aside0.mk hb
  clear hb
  have H1 := Aside0.mk (blk_below h0 hb2)
  have HB1 := Aside0.mk (show Below b w w2 by rw [HBE.out]; exact hB1.trans (hb2.mono hB1.size))
  have hsz2 : b < w2.heap.size := blk_lt H1.out
  have h1b := HBD.out 1
  clear h0 hB1 hsz hb2
  obtain ⟨c5, hc5, hc5b⟩ : ∃ c5 : Nat, (∀ h : 5 < s.size, (s[5]'h).toNat = c5) ∧ c5 < 256 := ⟨(s[5]'(by omega)).toNat, fun _ => rfl, (s[5]'(by omega)).toNat_lt⟩
  have HC5 : Aside0 (decC s.data.toList = min c5 50) := ⟨by unfold decC; rw [byte_at s 5 (by omega), hc5 (by omega)]⟩
  go_wp2_with fail
  obtain ⟨g, hg⟩ : ∃ g, g = w2.heap.size := ⟨_, rfl⟩
  obtain ⟨w3, hw3⟩ : ∃ w3, w3 = w2.alloc (.cells #[.int .i64 (rd4 s.data.toList 1), .slice none 0 0] 24) := ⟨_, rfl⟩
  rw [← hw3, ← hg]
  have H5 := Aside0.mk (show w3.heap[g]? = some (.cells #[.int .i64 (rd4 s.data.toList 1), .slice none 0 0] 24 (0, 0)) by rw [hw3, hg]; exact blk_new w2 _)
  replace H1 := Aside0.mk (show w3.heap[b]? = some (.cells #[.int .i64 0, .slice none 0 0] 24 (0, 0)) by rw [hw3]; exact blk_alloc H1.out _)
  replace HB1 := Aside0.mk (show Below b w w3 by rw [hw3]; exact (HB1.out.mono (Nat.le_refl _)).alloc (by omega) _)
  have hsz3 : g < w3.heap.size := by rw [hw3, hg]; simp
  have hbg : b < g := by omega
  clear hw3 hg hsz2
  obtain ⟨C, hC⟩ : ∃ C, C = min c5 56 := ⟨_, rfl⟩
  go_loopw [7] (fun i wr => ∃ (k : Nat) (v : Value), k ≤ C ∧ i = .int .i64 k ∧ Aside0 (wr.heap[b]? = some (.cells #[.int .i64 0, .slice none 0 0] 24 (0, 0))) ∧
      Aside0 (wr.heap[g]? = some (.cells #[.int .i64 (rd4 s.data.toList 1), v] 24 (0, 0))) ∧ Aside0 (Kd.R (Kd.int .i64) 3 wr (g + 1) (fun _ => True) v (decs s.data.toList k)) ∧ Aside0 (g + 1 ≤ wr.heap.size) ∧ Aside0 (Below b w wr)) (fun i _ => C - (intOf i).toNat)
  case atStart => exact ⟨0, .slice none 0 0, Nat.zero_le _, rfl, H1, H5, ⟨Kd.R_nil _ _ _ _ _⟩, ⟨hsz3⟩, HB1⟩
  case round =>
    clear H1 H5 HB1 hsz3
    obtain ⟨k, v, hk, rfl, H1, H5, HR, HZ, HBw⟩ := hrel
    by_cases hlt : k < C
    · have t3 : decide ((k : Int) < (c5 : Int)) = true := decide_eq_true (by omega)
      have t4 : decide (10 + 4 * (k : Int) ≤ 232) = true := decide_eq_true (by omega)
      have hk56 : k < 56 := by omega
      have hg1 := (blk_cell H5.out 1).trans rfl
      go_wp2_with fail
      have hu := HUN.out (6 + 4 * k) (by omega) wr
      rw [show 6 + 4 * k + 4 = 10 + 4 * k by omega] at hu
      refine hu.mono ?_
      clear hu
      rintro e w4 ⟨rfl, hb4⟩
      obtain ⟨A, c, rfl⟩ := Kd.R_slice HR.out
      replace H1 := Aside0.mk (blk_below H1.out hb4)
      replace H5 := Aside0.mk (blk_below H5.out hb4)
      replace HR := Aside0.mk (Kd.R_below HR.out hb4)
      replace HBw := Aside0.mk (HBw.out.trans (hb4.mono (by have := HZ.out; omega)))
      replace HZ := Aside0.mk (Nat.le_trans HZ.out hb4.size)
      have hrb := HBD.out (6 + 4 * k)
      obtain ⟨x, hx⟩ : ∃ x, x = rd4 s.data.toList (6 + 4 * k) := ⟨_, rfl⟩
      rw [← hx] at hrb ⊢
      have HX := Aside0.mk hx
      have hlk : (decs s.data.toList k).length = k := decs_length _ _
      have HLK := Aside0.mk hlk
      obtain ⟨l, hl⟩ : ∃ l, l = decs s.data.toList k := ⟨_, rfl⟩
      rw [← hl] at HR hlk H5
      have HL := Aside0.mk hl
      have hll : l.length ≤ 56 := by omega
      have HLL := Aside0.mk hlk
      clear hb4 hg1 hx hl HLK hlk
      have hg1 : w4.cell? ⟨g, 1, none⟩ = some (.slice A l.length c) := (blk_cell H5.out 1).trans rfl
      have hgf : w4.frozen? ⟨g, 1, none⟩ = false := blk_frozen H5.out 1
      go_wp2_with (at_builtin; refine Kd.R_append (Kd.int .i64) (W := w4) (w0 := w4) (g + 1) rfl (.tmp 51) (.tmp 54) 22 3 (.int .i64 0) 8 rfl Try.underlying22 info3 rfl (by decide) (by decide) (.slice A l.length c) _ x [.int .i64 x] (fun _ => True) (fun k' => some k' ≠ (Value.slice A l.length c).ownBlock ∧ True) rfl (by show Value.slice (some ⟨w4.heap.size, 0, none⟩) 1 1 = _; simp) rfl (fun _ h => ⟨h.2, h.1⟩) (fun k' hk' => trivial) HR.out (Below.refl _ _) HZ.out (by omega) ?_; intro v7 w7 hR7 hB7 hG7 hat7; refine Shut.out ?_)
      unfold Shut
      obtain ⟨un, hun⟩ : ∃ un, un = l ++ [x] := ⟨_, rfl⟩
      rw [← hun] at hR7
      have HUL := Aside0.mk hun
      obtain ⟨A7, c7, rfl⟩ := Kd.R_slice hR7
      have hne5 := R_ne_blk HR.out H5.out (by decide)
      have hne1 := R_ne_blk HR.out H1.out (by decide)
      replace H5 := Aside0.mk (blk_grown H5.out hG7 hne5)
      replace H1 := Aside0.mk (blk_grown H1.out hG7 hne1)
      have HZ7 := Aside0.mk (Nat.le_trans HZ.out hG7.size)
      have HB7 := Aside0.mk (HBw.out.grown hG7 (by have := HZ.out; omega) (fun k' hk' => by have := Kd.R_base HR.out k' hk'; omega))
      have HR7 := Aside0.mk hR7
      clear hun hne5 hne1 hR7 hB7 hG7 hat7 hg1 hgf HR HBw HZ
      have hg1 : w7.cell? ⟨g, 1, none⟩ = some (.slice A l.length c) := (blk_cell H5.out 1).trans rfl
      have hgf : w7.frozen? ⟨g, 1, none⟩ = false := blk_frozen H5.out 1
      go_wp2
      go_roundw
      case measure => simp only [intOf]; omega
      case rel => exact ⟨k + 1, _, by omega, rfl, ⟨blk_far H1.out (show b ≠ g by omega) _⟩, ⟨blk_put H5.out 1 _ rfl⟩, ⟨by rw [decs_succ, ← HL.out, ← HX.out, ← HUL.out]; exact Kd.R_set HR7.out H5.out (fun q hq => by simp [Kd.int, Kd.scalar] at hq; omega) 1 _⟩, ⟨by simpa using HZ7.out⟩, ⟨HB7.out.setCell (show b ≤ g by omega) _⟩⟩
    · obtain ⟨A, c, rfl⟩ := Kd.R_slice HR.out
      obtain ⟨_, hcl, hCr⟩ := Kd.R_reads' HR.out
      have HCr := Aside0.mk hCr
      clear hCr
      have hcall := fun W => refEnc_calls (rd4 s.data.toList 1) A c (decs s.data.toList k) W
      have hlenE : (s.data.toList).length = 232 := by rw [data_length]; exact hs
      have HLE := Aside0.mk hlenE
      have hk56 : k ≤ 56 := by omega
      have HDO : Aside0 (decOk s.data.toList = (encOk (rd4 s.data.toList 1) (decs s.data.toList k) && (trunkPage (rd4 s.data.toList 1) (decs s.data.toList k) == s.data.toList))) := ⟨decOk_long s k (by omega) hs (by rw [HC5.out]; omega) c5 (by rw [byte_at s 5 (by omega), hc5 (by omega)]) (by omega)⟩
      have HDL : Aside0 (decOk s.data.toList = true → decL s.data.toList = decs s.data.toList k) := ⟨fun h => decL_long s k h (by rw [HC5.out]; omega) (by
        intro hn
        have h2 := HDO.out
        rw [h] at h2
        have h3 := (encOk_parts.1 (Bool.and_eq_true_iff.1 h2.symm).1).2.1
        rw [decs_length] at h3
        rw [HC5.out] at hn
        omega)⟩
      have hkc : c5 ≤ k ∨ (56 ≤ k ∧ k < c5) := by omega
      clear hlenE hC hlt
      have hcl2 := hcl
      rw [decs_length] at hcl2
      cases hok : encOk (rd4 s.data.toList 1) (decs s.data.toList k) with
      | false =>
        have HD := Aside0.mk (show decOk s.data.toList = false by rw [HDO.out, hok]; rfl)
        have hE : encE (rd4 s.data.toList 1) (decs s.data.toList k) = 1 := by unfold encE; rw [hok]; rfl
        have hEB : encB (rd4 s.data.toList 1) (decs s.data.toList k) = [] := by unfold encB; rw [hok]; rfl
        rw [hE, hEB] at hcall
        clear hok hE hEB
        have HCALL := Aside0.mk hcall
        clear hcall
        have hg0 : wr.cell? ⟨g, 0, none⟩ = some (.int .i64 (rd4 s.data.toList 1)) := (blk_cell H5.out 0).trans rfl
        have hg1 : wr.cell? ⟨g, 1, none⟩ = some (.slice A (decs s.data.toList k).length c) := (blk_cell H5.out 1).trans rfl
        rcases hkc with hkc | hkc
        · have t3 : decide ((k : Int) < (c5 : Int)) = false := decide_eq_false (by omega)
          go_wp2_with fail
          refine (HCALL.out _ HCr.out hcl).mono ?_
          rintro e w4 ⟨rfl, hb4⟩
          replace H1 := Aside0.mk (blk_below H1.out hb4)
          replace H5 := Aside0.mk (blk_below H5.out hb4)
          replace HR := Aside0.mk (Kd.R_below HR.out hb4)
          replace HBw := Aside0.mk (HBw.out.trans (hb4.mono (by have := HZ.out; omega)))
          clear hb4 HCr HCALL hg0 hg1
          have hg0 : w4.cell? ⟨g, 0, none⟩ = some (.int .i64 (rd4 s.data.toList 1)) := (blk_cell H5.out 0).trans rfl
          have hg1 : w4.cell? ⟨g, 1, none⟩ = some (.slice A (decs s.data.toList k).length c) := (blk_cell H5.out 1).trans rfl
          have hr0 : w4.cell? ⟨b, 0, none⟩ = some (.int .i64 0) := (blk_cell H1.out 0).trans rfl
          have hr1 : w4.cell? ⟨b, 1, none⟩ = some (.slice none 0 0) := (blk_cell H1.out 1).trans rfl
          have hf0 : w4.frozen? ⟨b, 0, none⟩ = false := blk_frozen H1.out 0
          have hf1 : w4.frozen? ⟨b, 1, none⟩ = false := blk_frozen H1.out 1
          go_wp2
          refine bodyPost_ret (results_ct rfl _ _ b 24 #[.int .i64 0, .slice none 0 0] (0, 0) _ rfl ?_ Try.underlying24 rfl (by kernel_rfl)) rfl ?_
          · exact blk_put (blk_put H1.out 0 _ rfl) 1 _ rfl
          · have e1 : decN1 s.data.toList = 0 := by unfold decN1; rw [HD.out]; simp
            have e2 : decL1 s.data.toList = [] := by unfold decL1; rw [HD.out]; simp
            have e3 : decE1 s.data.toList = 4 := by unfold decE1; rw [if_pos HLE.out, HD.out]; rfl
            rw [e1, e2, e3]
            exact ⟨_, rfl, Kd.R_nil _ _ _ _ _, ((HBw.out.setCell (Nat.le_refl _) _).setCell (Nat.le_refl _) _).mono hbs⟩
        · have t3 : decide ((k : Int) < (c5 : Int)) = true := decide_eq_true (by omega)
          have t4 : decide (10 + 4 * (k : Int) ≤ 232) = false := decide_eq_false (by omega)
          go_wp2_with fail
          refine (HCALL.out _ HCr.out hcl).mono ?_
          rintro e w4 ⟨rfl, hb4⟩
          replace H1 := Aside0.mk (blk_below H1.out hb4)
          replace H5 := Aside0.mk (blk_below H5.out hb4)
          replace HR := Aside0.mk (Kd.R_below HR.out hb4)
          replace HBw := Aside0.mk (HBw.out.trans (hb4.mono (by have := HZ.out; omega)))
          clear hb4 HCr HCALL hg0 hg1
          have hg0 : w4.cell? ⟨g, 0, none⟩ = some (.int .i64 (rd4 s.data.toList 1)) := (blk_cell H5.out 0).trans rfl
          have hg1 : w4.cell? ⟨g, 1, none⟩ = some (.slice A (decs s.data.toList k).length c) := (blk_cell H5.out 1).trans rfl
          have hr0 : w4.cell? ⟨b, 0, none⟩ = some (.int .i64 0) := (blk_cell H1.out 0).trans rfl
          have hr1 : w4.cell? ⟨b, 1, none⟩ = some (.slice none 0 0) := (blk_cell H1.out 1).trans rfl
          have hf0 : w4.frozen? ⟨b, 0, none⟩ = false := blk_frozen H1.out 0
          have hf1 : w4.frozen? ⟨b, 1, none⟩ = false := blk_frozen H1.out 1
          go_wp2
          refine bodyPost_ret (results_ct rfl _ _ b 24 #[.int .i64 0, .slice none 0 0] (0, 0) _ rfl ?_ Try.underlying24 rfl (by kernel_rfl)) rfl ?_
          · exact blk_put (blk_put H1.out 0 _ rfl) 1 _ rfl
          · have e1 : decN1 s.data.toList = 0 := by unfold decN1; rw [HD.out]; simp
            have e2 : decL1 s.data.toList = [] := by unfold decL1; rw [HD.out]; simp
            have e3 : decE1 s.data.toList = 4 := by unfold decE1; rw [if_pos HLE.out, HD.out]; rfl
            rw [e1, e2, e3]
            exact ⟨_, rfl, Kd.R_nil _ _ _ _ _, ((HBw.out.setCell (Nat.le_refl _) _).setCell (Nat.le_refl _) _).mono hbs⟩
      | true =>
        have hE : encE (rd4 s.data.toList 1) (decs s.data.toList k) = 0 := by unfold encE; rw [hok]; rfl
        have hEB : encB (rd4 s.data.toList 1) (decs s.data.toList k) = trunkPage (rd4 s.data.toList 1) (decs s.data.toList k) := by unfold encB; rw [hok]; rfl
        rw [hE, hEB] at hcall
        clear hE hEB
        have HCALL := Aside0.mk hcall
        have HOK := Aside0.mk hok
        clear hcall hok
        have hg0 : wr.cell? ⟨g, 0, none⟩ = some (.int .i64 (rd4 s.data.toList 1)) := (blk_cell H5.out 0).trans rfl
        have hg1 : wr.cell? ⟨g, 1, none⟩ = some (.slice A (decs s.data.toList k).length c) := (blk_cell H5.out 1).trans rfl
        rcases hkc with hkc | hkc
        · have t3 : decide ((k : Int) < (c5 : Int)) = false := decide_eq_false (by omega)
          go_wp2_with fail
          refine (HCALL.out _ HCr.out hcl).mono ?_
          rintro e w4 ⟨rfl, hb4⟩
          replace H1 := Aside0.mk (blk_below H1.out hb4)
          replace H5 := Aside0.mk (blk_below H5.out hb4)
          replace HR := Aside0.mk (Kd.R_below HR.out hb4)
          replace HBw := Aside0.mk (HBw.out.trans (hb4.mono (by have := HZ.out; omega)))
          clear hb4 HCr HCALL hg0 hg1
          have hg0 : w4.cell? ⟨g, 0, none⟩ = some (.int .i64 (rd4 s.data.toList 1)) := (blk_cell H5.out 0).trans rfl
          have hg1 : w4.cell? ⟨g, 1, none⟩ = some (.slice A (decs s.data.toList k).length c) := (blk_cell H5.out 1).trans rfl
          have hr0 : w4.cell? ⟨b, 0, none⟩ = some (.int .i64 0) := (blk_cell H1.out 0).trans rfl
          have hr1 : w4.cell? ⟨b, 1, none⟩ = some (.slice none 0 0) := (blk_cell H1.out 1).trans rfl
          have hf0 : w4.frozen? ⟨b, 0, none⟩ = false := blk_frozen H1.out 0
          have hf1 : w4.frozen? ⟨b, 1, none⟩ = false := blk_frozen H1.out 1
          go_wp2
          · have hne : (!(bs (trunkPage (rd4 s.data.toList 1) (decs s.data.toList k))).toList == s.toList) = true := by assumption
            have HD := Aside0.mk (show decOk s.data.toList = false by
              rw [ByteArray.toList_eq, ByteArray.toList_eq, bs_list] at hne
              have h2 : trunkPage (rd4 s.data.toList 1) (decs s.data.toList k) ≠ s.data.toList := by simpa using hne
              rw [HDO.out, HOK.out]; simp [h2])
            refine bodyPost_ret (results_ct rfl _ _ b 24 #[.int .i64 0, .slice none 0 0] (0, 0) _ rfl ?_ Try.underlying24 rfl (by kernel_rfl)) rfl ?_
            · exact blk_put (blk_put H1.out 0 _ rfl) 1 _ rfl
            · have e1 : decN1 s.data.toList = 0 := by unfold decN1; rw [HD.out]; simp
              have e2 : decL1 s.data.toList = [] := by unfold decL1; rw [HD.out]; simp
              have e3 : decE1 s.data.toList = 4 := by unfold decE1; rw [if_pos HLE.out, HD.out]; rfl
              rw [e1, e2, e3]
              exact ⟨_, rfl, Kd.R_nil _ _ _ _ _, ((HBw.out.setCell (Nat.le_refl _) _).setCell (Nat.le_refl _) _).mono hbs⟩
          · have heq : (!(bs (trunkPage (rd4 s.data.toList 1) (decs s.data.toList k))).toList == s.toList) = false := by assumption
            have HD := Aside0.mk (show decOk s.data.toList = true by
              rw [ByteArray.toList_eq, ByteArray.toList_eq, bs_list] at heq
              have h2 : trunkPage (rd4 s.data.toList 1) (decs s.data.toList k) = s.data.toList := by simpa using heq
              rw [HDO.out, HOK.out, h2]; simp)
            refine bodyPost_ret (results_ct rfl _ _ b 24 #[.int .i64 (rd4 s.data.toList 1), .slice A (decs s.data.toList k).length c] (0, 0) _ rfl ?_ Try.underlying24 rfl (by kernel_rfl)) rfl ?_
            · exact blk_put (blk_put H1.out 0 _ rfl) 1 _ rfl
            · have e1 : decN1 s.data.toList = rd4 s.data.toList 1 := by unfold decN1; rw [HD.out]; simp [HLE.out, decN]
              have e2 : decL1 s.data.toList = decs s.data.toList k := by unfold decL1; rw [if_pos ⟨HLE.out, HD.out⟩]; exact HDL.out HD.out
              have e3 : decE1 s.data.toList = 0 := by unfold decE1; rw [if_pos HLE.out, HD.out]; rfl
              rw [e1, e2, e3]
              refine ⟨_, rfl, ?_, ((HBw.out.setCell (Nat.le_refl _) _).setCell (Nat.le_refl _) _).mono hbs⟩
              have h4 := Kd.R_set HR.out H1.out (fun q hq => by simp [Kd.int, Kd.scalar] at hq; omega) 0 (.int .i64 (rd4 s.data.toList 1))
              exact Kd.R_lower (Kd.R_set h4 (blk_put H1.out 0 _ rfl) (fun q hq => by simp [Kd.int, Kd.scalar] at hq; omega) 1 _) (by omega)
        · have t3 : decide ((k : Int) < (c5 : Int)) = true := decide_eq_true (by omega)
          have t4 : decide (10 + 4 * (k : Int) ≤ 232) = false := decide_eq_false (by omega)
          go_wp2_with fail
          refine (HCALL.out _ HCr.out hcl).mono ?_
          rintro e w4 ⟨rfl, hb4⟩
          replace H1 := Aside0.mk (blk_below H1.out hb4)
          replace H5 := Aside0.mk (blk_below H5.out hb4)
          replace HR := Aside0.mk (Kd.R_below HR.out hb4)
          replace HBw := Aside0.mk (HBw.out.trans (hb4.mono (by have := HZ.out; omega)))
          clear hb4 HCr HCALL hg0 hg1
          have hg0 : w4.cell? ⟨g, 0, none⟩ = some (.int .i64 (rd4 s.data.toList 1)) := (blk_cell H5.out 0).trans rfl
          have hg1 : w4.cell? ⟨g, 1, none⟩ = some (.slice A (decs s.data.toList k).length c) := (blk_cell H5.out 1).trans rfl
          have hr0 : w4.cell? ⟨b, 0, none⟩ = some (.int .i64 0) := (blk_cell H1.out 0).trans rfl
          have hr1 : w4.cell? ⟨b, 1, none⟩ = some (.slice none 0 0) := (blk_cell H1.out 1).trans rfl
          have hf0 : w4.frozen? ⟨b, 0, none⟩ = false := blk_frozen H1.out 0
          have hf1 : w4.frozen? ⟨b, 1, none⟩ = false := blk_frozen H1.out 1
          go_wp2
          · have hne : (!(bs (trunkPage (rd4 s.data.toList 1) (decs s.data.toList k))).toList == s.toList) = true := by assumption
            have HD := Aside0.mk (show decOk s.data.toList = false by
              rw [ByteArray.toList_eq, ByteArray.toList_eq, bs_list] at hne
              have h2 : trunkPage (rd4 s.data.toList 1) (decs s.data.toList k) ≠ s.data.toList := by simpa using hne
              rw [HDO.out, HOK.out]; simp [h2])
            refine bodyPost_ret (results_ct rfl _ _ b 24 #[.int .i64 0, .slice none 0 0] (0, 0) _ rfl ?_ Try.underlying24 rfl (by kernel_rfl)) rfl ?_
            · exact blk_put (blk_put H1.out 0 _ rfl) 1 _ rfl
            · have e1 : decN1 s.data.toList = 0 := by unfold decN1; rw [HD.out]; simp
              have e2 : decL1 s.data.toList = [] := by unfold decL1; rw [HD.out]; simp
              have e3 : decE1 s.data.toList = 4 := by unfold decE1; rw [if_pos HLE.out, HD.out]; rfl
              rw [e1, e2, e3]
              exact ⟨_, rfl, Kd.R_nil _ _ _ _ _, ((HBw.out.setCell (Nat.le_refl _) _).setCell (Nat.le_refl _) _).mono hbs⟩
          · have heq : (!(bs (trunkPage (rd4 s.data.toList 1) (decs s.data.toList k))).toList == s.toList) = false := by assumption
            have HD := Aside0.mk (show decOk s.data.toList = true by
              rw [ByteArray.toList_eq, ByteArray.toList_eq, bs_list] at heq
              have h2 : trunkPage (rd4 s.data.toList 1) (decs s.data.toList k) = s.data.toList := by simpa using heq
              rw [HDO.out, HOK.out, h2]; simp)
            refine bodyPost_ret (results_ct rfl _ _ b 24 #[.int .i64 (rd4 s.data.toList 1), .slice A (decs s.data.toList k).length c] (0, 0) _ rfl ?_ Try.underlying24 rfl (by kernel_rfl)) rfl ?_
            · exact blk_put (blk_put H1.out 0 _ rfl) 1 _ rfl
            · have e1 : decN1 s.data.toList = rd4 s.data.toList 1 := by unfold decN1; rw [HD.out]; simp [HLE.out, decN]
              have e2 : decL1 s.data.toList = decs s.data.toList k := by unfold decL1; rw [if_pos ⟨HLE.out, HD.out⟩]; exact HDL.out HD.out
              have e3 : decE1 s.data.toList = 0 := by unfold decE1; rw [if_pos HLE.out, HD.out]; rfl
              rw [e1, e2, e3]
              refine ⟨_, rfl, ?_, ((HBw.out.setCell (Nat.le_refl _) _).setCell (Nat.le_refl _) _).mono hbs⟩
              have h4 := Kd.R_set HR.out H1.out (fun q hq => by simp [Kd.int, Kd.scalar] at hq; omega) 0 (.int .i64 (rd4 s.data.toList 1))
              exact Kd.R_lower (Kd.R_set h4 (blk_put H1.out 0 _ rfl) (fun q hq => by simp [Kd.int, Kd.scalar] at hq; omega) 1 _) (by omega)
end Go.Proofs.Ytonbipaajhokfaa
/-
  Walk: same, at two trunks that read alike.
-/
set_option linter.unusedVariables false
set_option linter.unusedSimpArgs false
namespace Go.Proofs.Ytonbipaajhokfaa
open Go.RowKit Go.Proofs.YtonbipaajhokfaaW.PrintWords Go.Proofs.YtonbipaajhokfaaW.PrintLast Go.Proofs.YtonbipaajhokfaaW.PrintMore

set_option maxHeartbeats 4000000 in
set_option maxRecDepth 100000 in
theorem same_calls (n : Int) (A A' : Option Addr) (c c' : Nat) (l : List Int) (w : World) (hl : Kd.C (Kd.int .i64) w A l.length l) (hl' : Kd.C (Kd.int .i64) w A' l.length l) (hc : l.length ≤ c) (hc' : l.length ≤ c') :
    Calls Try.prog 16 #[.agg #[.int .i64 n, .slice A l.length c], .agg #[.int .i64 n, .slice A' l.length c']] w fun e w' => e = .returned (.bool true) ∧ Below w.heap.size w w' := by
  have hm := Kd.C_max hl
  have hu24 := Try.underlying24
  have HL := Aside0.mk hl
  have HL' := Aside0.mk hl'
  clear hl hl'
  go_enter Try.func16, Try.ntmps16
  go_wp2
  obtain ⟨w1, hw1⟩ : ∃ w1, w1 = (w.alloc (.cells #[.int .i64 n, .slice A l.length c] 24)).alloc (.cells #[.int .i64 n, .slice A' l.length c'] 24) := ⟨_, rfl⟩
  have HB := Aside0.mk (show Below w.heap.size w w1 by rw [hw1]; exact below_alloc (below_alloc (Below.refl _ _) _) _)
  have h0 := blk_alloc (blk_new w (.cells #[.int .i64 n, .slice A l.length c] 24)) (.cells #[.int .i64 n, .slice A' l.length c'] 24)
  have h1 := blk_new (w.alloc (.cells #[.int .i64 n, .slice A l.length c] 24)) (.cells #[.int .i64 n, .slice A' l.length c'] 24)
  rw [← hw1] at h0 h1 ⊢
  rw [World.size_alloc] at h1
  have HL1 := Aside0.mk (Kd.C_below HL.out HB.out)
  have HL2 := Aside0.mk (Kd.C_below HL'.out HB.out)
  obtain ⟨b, hb⟩ : ∃ b, b = w.heap.size := ⟨_, rfl⟩
  rw [← hb] at h0 h1 ⊢
  have H0 := Aside0.mk h0
  have H1 := Aside0.mk h1
  clear hw1 h0 h1 HL HL' hb
  go_loopw [5] (fun i wr => ∃ k : Nat, k ≤ l.length ∧ i = .int .i64 k ∧ Aside0 (Below w1.heap.size w1 wr)) (fun i _ => l.length - (intOf i).toNat)
  case atStart => exact ⟨0, Nat.zero_le _, rfl, ⟨Below.refl _ _⟩⟩
  case round =>
    obtain ⟨k, hk, rfl, hbw⟩ := hrel
    have hc1 := (blk_cell (blk_below H0.out hbw.out) 1).trans rfl
    have hc2 := (blk_cell (blk_below H1.out hbw.out) 1).trans rfl
    by_cases hlt : k < l.length
    · obtain ⟨ad, e1, hx⟩ := Kd.at_int (Kd.C_below HL1.out hbw.out) (k : Int) (by omega) (by omega)
      obtain ⟨ad', e1', hx'⟩ := Kd.at_int (Kd.C_below HL2.out hbw.out) (k : Int) (by omega) (by omega)
      cases e1
      cases e1'
      rw [Int.toNat_natCast] at hx hx'
      obtain ⟨x, hxd⟩ : ∃ x, x = rd l (k : Int) := ⟨_, rfl⟩
      rw [← hxd] at hx hx'
      clear hxd
      go_wp2_with fail
      go_quiet (fail)
      go_wp2
      go_roundw
      case rel => exact ⟨k + 1, by omega, by go_num, ⟨pw_below_drewN hbw.out _⟩⟩
      case measure => simp [intOf]; omega
    · obtain rfl : k = l.length := by omega
      go_wp2
      go_ret
      exact ⟨rfl, HB.out.trans (hbw.out.mono HB.out.size)⟩
end Go.Proofs.Ytonbipaajhokfaa
/-
  Walk: SparePages.
-/
set_option linter.unusedVariables false
set_option linter.unusedSimpArgs false
namespace Go.Proofs.Ytonbipaajhokfaa
open Go.RowKit Go.Proofs.YtonbipaajhokfaaW.PrintWords Go.Proofs.YtonbipaajhokfaaW.PrintLast Go.Proofs.YtonbipaajhokfaaW.PrintMore

set_option maxHeartbeats 4000000 in
set_option maxRecDepth 100000 in
theorem sparePages_of (hRD : ∀ (s : ByteArray) (w : World), Calls Try.prog 15 #[.string s] w fun e w' => ∃ v, e = .returned (.tuple #[.agg #[.int .i64 (decN1 s.data.toList), v], .int .i64 (decE1 s.data.toList)]) ∧
      Kd.R (Kd.int .i64) 3 w' w.heap.size (fun _ => True) v (decL1 s.data.toList) ∧ Below w.heap.size w w')
    (n : Int) (A : Option Addr) (c : Nat) (l : List Int) (s : ByteArray) (w : World) (hl : Kd.C (Kd.int .i64) w A l.length l) (hc : l.length ≤ c) :
    Calls Try.prog 3 #[.agg #[.int .i64 n, .slice A l.length c], .string s] w fun e w' => e = .returned (.bool true) ∧ Below w.heap.size w w' := by
  have hu24 := Try.underlying24
  have HL := Aside0.mk hl
  have HRD := Aside0.mk hRD
  clear hl hRD
  go_enter Try.func3, Try.ntmps3
  go_wp2_with fail
  refine (awake_calls _).mono ?_
  rintro e w0 ⟨rfl, hB0⟩
  have HB0 := Aside0.mk ((below_alloc (Below.refl w.heap.size w) (.cells #[.int .i64 n, .slice A l.length c] 24)).trans (hB0.mono (by simp)))
  have H0 := Aside0.mk (blk_below (blk_new w (.cells #[.int .i64 n, .slice A l.length c] 24)) hB0)
  obtain ⟨b, hb⟩ : ∃ b, b = w.heap.size := ⟨_, rfl⟩
  rw [← hb] at H0 ⊢
  have HBE := Aside0.mk hb
  clear hB0 hb
  have p0 : w0.cell? ⟨b, 0, none⟩ = some (.int .i64 n) := (blk_cell H0.out 0).trans rfl
  have p1 : w0.cell? ⟨b, 1, none⟩ = some (.slice A l.length c) := (blk_cell H0.out 1).trans rfl
  have hec := fun W h => encode_calls n A c l W h hc
  have hrc := fun W h => refEnc_calls n A c l W h hc
  have HEC := Aside0.mk hec
  have HRC := Aside0.mk hrc
  obtain ⟨eb, heb⟩ : ∃ eb, eb = bs (encB n l) := ⟨_, rfl⟩
  obtain ⟨ee, hee⟩ : ∃ ee, ee = encE n l := ⟨_, rfl⟩
  rw [← heb, ← hee] at HEC HRC
  clear heb hee hec hrc
  go_wp2_with fail
  refine (HEC.out _ (Kd.C_below HL.out HB0.out)).mono ?_
  rintro e w1 ⟨rfl, hb1⟩
  replace HB0 := Aside0.mk (HB0.out.trans (hb1.mono HB0.out.size))
  replace H0 := Aside0.mk (blk_below H0.out hb1)
  clear hb1 p0 p1
  have p0 : w1.cell? ⟨b, 0, none⟩ = some (.int .i64 n) := (blk_cell H0.out 0).trans rfl
  have p1 : w1.cell? ⟨b, 1, none⟩ = some (.slice A l.length c) := (blk_cell H0.out 1).trans rfl
  go_wp2_with fail
  refine (HRC.out _ (Kd.C_below HL.out HB0.out)).mono ?_
  rintro e w2 ⟨rfl, hb2⟩
  replace HB0 := Aside0.mk (HB0.out.trans (hb2.mono HB0.out.size))
  replace H0 := Aside0.mk (blk_below H0.out hb2)
  clear hb2 p0 p1 HEC HRC
  go_wp2_with fail
  refine (decode_calls s w2).mono ?_
  rintro e w3 ⟨v, rfl, hv, hb3⟩
  obtain ⟨dn, hdn⟩ : ∃ dn, dn = decN1 s.data.toList := ⟨_, rfl⟩
  obtain ⟨de, hde⟩ : ∃ de, de = decE1 s.data.toList := ⟨_, rfl⟩
  obtain ⟨dl, hdl⟩ : ∃ dl, dl = decL1 s.data.toList := ⟨_, rfl⟩
  have hrd := HRD.out s
  rw [← hdn, ← hde, ← hdl] at hrd
  rw [← hdl] at hv
  rw [← hdn, ← hde]
  have HRD2 := Aside0.mk hrd
  clear hrd HRD hdn hde hdl
  obtain ⟨A1, c1, rfl⟩ := Kd.R_slice hv
  replace HB0 := Aside0.mk (HB0.out.trans (hb3.mono HB0.out.size))
  have HV := Aside0.mk hv
  clear hb3 hv
  obtain ⟨b3, hb3⟩ : ∃ b3, b3 = w3.heap.size := ⟨_, rfl⟩
  obtain ⟨w3x, hw3⟩ : ∃ w3x, w3x = w3.alloc (.cells #[.int .i64 dn, .slice A1 dl.length c1] 24) := ⟨_, rfl⟩
  replace HV := Aside0.mk (show Kd.R (Kd.int .i64) 3 w3x _ _ _ dl by rw [hw3]; exact Kd.R_alloc HV.out _)
  replace HB0 := Aside0.mk (show Below w.heap.size w w3x by rw [hw3]; exact HB0.out.alloc HB0.out.size _)
  have H3 := Aside0.mk (show w3x.heap[b3]? = some (.cells #[.int .i64 dn, .slice A1 dl.length c1] 24 (0, 0)) by rw [hw3, hb3]; exact blk_new w3 (.cells #[.int .i64 dn, .slice A1 dl.length c1] 24))
  go_wp2_with fail
  rw [← hw3, ← hb3]
  clear hw3 hb3
  refine (HRD2.out _).mono ?_
  rintro e w4 ⟨v2, rfl, hv2, hb4⟩
  obtain ⟨A2, c2, rfl⟩ := Kd.R_slice hv2
  replace HV := Aside0.mk (Kd.R_below HV.out hb4)
  replace HB0 := Aside0.mk (HB0.out.trans (hb4.mono HB0.out.size))
  replace H3 := Aside0.mk (blk_below H3.out hb4)
  clear hb4 HRD2
  obtain ⟨b4, hb4⟩ : ∃ b4, b4 = w4.heap.size := ⟨_, rfl⟩
  obtain ⟨w4x, hw4⟩ : ∃ w4x, w4x = w4.alloc (.cells #[.int .i64 dn, .slice A2 dl.length c2] 24) := ⟨_, rfl⟩
  have HV2 := Aside0.mk (show Kd.R (Kd.int .i64) 3 w4x _ _ _ dl by rw [hw4]; exact Kd.R_alloc hv2 _)
  replace HV := Aside0.mk (show Kd.R (Kd.int .i64) 3 w4x _ _ _ dl by rw [hw4]; exact Kd.R_alloc HV.out _)
  replace HB0 := Aside0.mk (show Below w.heap.size w w4x by rw [hw4]; exact HB0.out.alloc HB0.out.size _)
  have H4 := Aside0.mk (show w4x.heap[b4]? = some (.cells #[.int .i64 dn, .slice A2 dl.length c2] 24 (0, 0)) by rw [hw4, hb4]; exact blk_new w4 (.cells #[.int .i64 dn, .slice A2 dl.length c2] 24))
  replace H3 := Aside0.mk (show w4x.heap[b3]? = some (.cells #[.int .i64 dn, .slice A1 dl.length c1] 24 (0, 0)) by rw [hw4]; exact blk_alloc H3.out _)
  have q0 : w4x.cell? ⟨b3, 0, none⟩ = some (.int .i64 dn) := (blk_cell H3.out 0).trans rfl
  have q1 : w4x.cell? ⟨b3, 1, none⟩ = some (.slice A1 dl.length c1) := (blk_cell H3.out 1).trans rfl
  have r0 : w4x.cell? ⟨b4, 0, none⟩ = some (.int .i64 dn) := (blk_cell H4.out 0).trans rfl
  have r1 : w4x.cell? ⟨b4, 1, none⟩ = some (.slice A2 dl.length c2) := (blk_cell H4.out 1).trans rfl
  clear hv2
  rw [hw4] at q0 q1
  rw [hw4, hb4] at r0 r1
  go_wp2_with fail
  rw [← hw4]
  clear hw4 hb4 q0 q1 r0 r1
  obtain ⟨_, hl1, hC1⟩ := Kd.R_reads' HV.out
  obtain ⟨_, hl2, hC2⟩ := Kd.R_reads' HV2.out
  refine (same_calls dn A1 A2 c1 c2 dl w4x hC1 hC2 hl1 hl2).mono ?_
  rintro e w5 ⟨rfl, hb5⟩
  clear hC1 hC2
  go_wp2
  go_ret
  exact ⟨rfl, HB0.out.trans (hb5.mono HB0.out.size)⟩
end Go.Proofs.Ytonbipaajhokfaa
/-
  SparePages: joined.
-/
set_option linter.unusedVariables false
namespace Go.Proofs.Ytonbipaajhokfaa
open Go.RowKit Go.Proofs.YtonbipaajhokfaaW.PrintWords
theorem refDecode_calls (s : ByteArray) (w : World) : Calls Try.prog 15 #[.string s] w fun e w' => ∃ v, e = .returned (.tuple #[.agg #[.int .i64 (decN1 s.data.toList), v], .int .i64 (decE1 s.data.toList)]) ∧
      Kd.R (Kd.int .i64) 3 w' w.heap.size (fun _ => True) v (decL1 s.data.toList) ∧ Below w.heap.size w w' := by
  by_cases hs : s.size = 232
  · exact refDecode_full s w hs
  · have h : s.data.toList.length ≠ 232 := by rw [data_length]; exact hs
    have e1 : decN1 s.data.toList = 0 := by unfold decN1; rw [if_neg (fun hh => h hh.1)]
    have e2 : decL1 s.data.toList = [] := by unfold decL1; rw [if_neg (fun hh => h hh.1)]
    have e3 : decE1 s.data.toList = 1 := by unfold decE1; rw [if_neg h]
    rw [e1, e2, e3]
    exact refDecode_short s w hs
theorem sparePages_calls (n : Int) (A : Option Addr) (c : Nat) (l : List Int) (s : ByteArray) (w : World) (hl : Kd.C (Kd.int .i64) w A l.length l) (hc : l.length ≤ c) :
    Calls Try.prog 3 #[.agg #[.int .i64 n, .slice A l.length c], .string s] w fun e w' => e = .returned (.bool true) ∧ Below w.heap.size w w' :=
  sparePages_of refDecode_calls n A c l s w hl hc
end Go.Proofs.Ytonbipaajhokfaa
