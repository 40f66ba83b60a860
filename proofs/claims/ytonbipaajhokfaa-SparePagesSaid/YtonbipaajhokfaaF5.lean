/-
  Walk: SparePages.
-/
import Derived.Test.YtonbipaajhokfaaF4
import Derived.Test.YtonbipaajhokfaaC4
set_option linter.unusedVariables false
set_option linter.unusedSimpArgs false
namespace Go.Proofs.Ytonbipaajhokfaa
open Go.RowKit Go.Proofs.YtonbipaajhokfaaW.PrintWords Go.Proofs.YtonbipaajhokfaaW.PrintLast Go.Proofs.YtonbipaajhokfaaW.PrintMore

set_option maxHeartbeats 4000000 in
set_option maxRecDepth 100000 in
theorem sparePages_of (hRD : ∀ (s : ByteArray) (w : World), Calls Try.prog 15 #[.string s] w fun e w' => ∃ v, e = .returned (.tuple #[.agg #[.int .i64 (decN1 s.data.toList), v], .int .i64 (decE1 s.data.toList)]) ∧
      Kd.R (Kd.int .i64) 3 w' w.heap.size (fun _ => True) v (decL1 s.data.toList) ∧ Below w.heap.size w w')
    (n : Int) (A : Option Addr) (c : Nat) (l : List Int) (s : ByteArray) (w : World) (hl : Kd.C (Kd.int .i64) w A l.length l) (hc : l.length ≤ c) :
    Calls Try.prog 3 #[.agg #[.int .i64 n, .slice A l.length c], .string s] w fun e w' => e = .returned (.bool true) ∧ Below w.heap.size w w' := by
  have hu24 := Try.underlying24
  have HL := Aside0.mk hl
  have HRD := Aside0.mk hRD
  clear hl hRD
  go_enter Try.func3, Try.ntmps3
  go_wp2_with fail
  refine (awake_calls _).mono ?_
  rintro e w0 ⟨rfl, hB0⟩
  have HB0 := Aside0.mk ((below_alloc (Below.refl w.heap.size w) (.cells #[.int .i64 n, .slice A l.length c] 24)).trans (hB0.mono (by simp)))
  have H0 := Aside0.mk (blk_below (blk_new w (.cells #[.int .i64 n, .slice A l.length c] 24)) hB0)
  obtain ⟨b, hb⟩ : ∃ b, b = w.heap.size := ⟨_, rfl⟩
  rw [← hb] at H0 ⊢
  have HBE := Aside0.mk hb
  clear hB0 hb
  have p0 : w0.cell? ⟨b, 0, none⟩ = some (.int .i64 n) := (blk_cell H0.out 0).trans rfl
  have p1 : w0.cell? ⟨b, 1, none⟩ = some (.slice A l.length c) := (blk_cell H0.out 1).trans rfl
  have hec := fun W h => encode_calls n A c l W h hc
  have hrc := fun W h => refEnc_calls n A c l W h hc
  have HEC := Aside0.mk hec
  have HRC := Aside0.mk hrc
  obtain ⟨eb, heb⟩ : ∃ eb, eb = bs (encB n l) := ⟨_, rfl⟩
  obtain ⟨ee, hee⟩ : ∃ ee, ee = encE n l := ⟨_, rfl⟩
  rw [← heb, ← hee] at HEC HRC
  clear heb hee hec hrc
  go_wp2_with fail
  refine (HEC.out _ (Kd.C_below HL.out HB0.out)).mono ?_
  rintro e w1 ⟨rfl, hb1⟩
  replace HB0 := Aside0.mk (HB0.out.trans (hb1.mono HB0.out.size))
  replace H0 := Aside0.mk (blk_below H0.out hb1)
  clear hb1 p0 p1
  have p0 : w1.cell? ⟨b, 0, none⟩ = some (.int .i64 n) := (blk_cell H0.out 0).trans rfl
  have p1 : w1.cell? ⟨b, 1, none⟩ = some (.slice A l.length c) := (blk_cell H0.out 1).trans rfl
  go_wp2_with fail
  refine (HRC.out _ (Kd.C_below HL.out HB0.out)).mono ?_
  rintro e w2 ⟨rfl, hb2⟩
  replace HB0 := Aside0.mk (HB0.out.trans (hb2.mono HB0.out.size))
  replace H0 := Aside0.mk (blk_below H0.out hb2)
  clear hb2 p0 p1 HEC HRC
  go_wp2_with fail
  refine (decode_calls s w2).mono ?_
  rintro e w3 ⟨v, rfl, hv, hb3⟩
  obtain ⟨dn, hdn⟩ : ∃ dn, dn = decN1 s.data.toList := ⟨_, rfl⟩
  obtain ⟨de, hde⟩ : ∃ de, de = decE1 s.data.toList := ⟨_, rfl⟩
  obtain ⟨dl, hdl⟩ : ∃ dl, dl = decL1 s.data.toList := ⟨_, rfl⟩
  have hrd := HRD.out s
  rw [← hdn, ← hde, ← hdl] at hrd
  rw [← hdl] at hv
  rw [← hdn, ← hde]
  have HRD2 := Aside0.mk hrd
  clear hrd HRD hdn hde hdl
  obtain ⟨A1, c1, rfl⟩ := Kd.R_slice hv
  replace HB0 := Aside0.mk (HB0.out.trans (hb3.mono HB0.out.size))
  have HV := Aside0.mk hv
  clear hb3 hv
  obtain ⟨b3, hb3⟩ : ∃ b3, b3 = w3.heap.size := ⟨_, rfl⟩
  obtain ⟨w3x, hw3⟩ : ∃ w3x, w3x = w3.alloc (.cells #[.int .i64 dn, .slice A1 dl.length c1] 24) := ⟨_, rfl⟩
  replace HV := Aside0.mk (show Kd.R (Kd.int .i64) 3 w3x _ _ _ dl by rw [hw3]; exact Kd.R_alloc HV.out _)
  replace HB0 := Aside0.mk (show Below w.heap.size w w3x by rw [hw3]; exact HB0.out.alloc HB0.out.size _)
  have H3 := Aside0.mk (show w3x.heap[b3]? = some (.cells #[.int .i64 dn, .slice A1 dl.length c1] 24 (0, 0)) by rw [hw3, hb3]; exact blk_new w3 (.cells #[.int .i64 dn, .slice A1 dl.length c1] 24))
  go_wp2_with fail
  rw [← hw3, ← hb3]
  clear hw3 hb3
  refine (HRD2.out _).mono ?_
  rintro e w4 ⟨v2, rfl, hv2, hb4⟩
  obtain ⟨A2, c2, rfl⟩ := Kd.R_slice hv2
  replace HV := Aside0.mk (Kd.R_below HV.out hb4)
  replace HB0 := Aside0.mk (HB0.out.trans (hb4.mono HB0.out.size))
  replace H3 := Aside0.mk (blk_below H3.out hb4)
  clear hb4 HRD2
  obtain ⟨b4, hb4⟩ : ∃ b4, b4 = w4.heap.size := ⟨_, rfl⟩
  obtain ⟨w4x, hw4⟩ : ∃ w4x, w4x = w4.alloc (.cells #[.int .i64 dn, .slice A2 dl.length c2] 24) := ⟨_, rfl⟩
  have HV2 := Aside0.mk (show Kd.R (Kd.int .i64) 3 w4x _ _ _ dl by rw [hw4]; exact Kd.R_alloc hv2 _)
  replace HV := Aside0.mk (show Kd.R (Kd.int .i64) 3 w4x _ _ _ dl by rw [hw4]; exact Kd.R_alloc HV.out _)
  replace HB0 := Aside0.mk (show Below w.heap.size w w4x by rw [hw4]; exact HB0.out.alloc HB0.out.size _)
  have H4 := Aside0.mk (show w4x.heap[b4]? = some (.cells #[.int .i64 dn, .slice A2 dl.length c2] 24 (0, 0)) by rw [hw4, hb4]; exact blk_new w4 (.cells #[.int .i64 dn, .slice A2 dl.length c2] 24))
  replace H3 := Aside0.mk (show w4x.heap[b3]? = some (.cells #[.int .i64 dn, .slice A1 dl.length c1] 24 (0, 0)) by rw [hw4]; exact blk_alloc H3.out _)
  have q0 : w4x.cell? ⟨b3, 0, none⟩ = some (.int .i64 dn) := (blk_cell H3.out 0).trans rfl
  have q1 : w4x.cell? ⟨b3, 1, none⟩ = some (.slice A1 dl.length c1) := (blk_cell H3.out 1).trans rfl
  have r0 : w4x.cell? ⟨b4, 0, none⟩ = some (.int .i64 dn) := (blk_cell H4.out 0).trans rfl
  have r1 : w4x.cell? ⟨b4, 1, none⟩ = some (.slice A2 dl.length c2) := (blk_cell H4.out 1).trans rfl
  clear hv2
  rw [hw4] at q0 q1
  rw [hw4, hb4] at r0 r1
  go_wp2_with fail
  rw [← hw4]
  clear hw4 hb4 q0 q1 r0 r1
  obtain ⟨_, hl1, hC1⟩ := Kd.R_reads' HV.out
  obtain ⟨_, hl2, hC2⟩ := Kd.R_reads' HV2.out
  refine (same_calls dn A1 A2 c1 c2 dl w4x hC1 hC2 hl1 hl2).mono ?_
  rintro e w5 ⟨rfl, hb5⟩
  clear hC1 hC2
  go_wp2
  go_ret
  exact ⟨rfl, HB0.out.trans (hb5.mono HB0.out.size)⟩
end Go.Proofs.Ytonbipaajhokfaa
