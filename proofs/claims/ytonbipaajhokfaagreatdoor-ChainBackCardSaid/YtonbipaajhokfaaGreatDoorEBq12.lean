/-
  Of this claim's texts, laid together by wip/gen/squeeze.py: N13 N16 N17.
-/
import Derived.Test.YtonbipaajhokfaaGreatDoorEBq11
section
set_option linter.unusedVariables false
set_option linter.unusedSimpArgs false
namespace Go.Proofs.YtonbipaajhokfaaGreatDoor
open Go.RowKit Go.Proofs.YtonbipaajhokfaaGreatDoorW.PrintWords Go.Proofs.YtonbipaajhokfaaGreatDoorW.PrintLast Go.Proofs.YtonbipaajhokfaaGreatDoorW.PrintMore
def shortL : List UInt8 := [115, 104, 111, 114, 116]
theorem awake11_plain (ks mb : Nat) {v z : List UInt8} (hv : v.length = 228) (hz : z.length = 5001) : ∃ (s1 s2 : Sh) (n m : Int),
    (shPg ks mb).cell (Sh.start 20) shortL = (Sh.start 20, (5, bs shortL, 0), 0) ∧ (shPg ks mb).cell (Sh.start 20) v = (s1, (228, ⟨#[]⟩, n), 0) ∧ 1 ≤ n ∧
    (shPg ks mb).walk s1 (228, ⟨#[]⟩, n) = (s1, v, [n, m], 0) ∧ (shPg ks mb).cell s1 z = (s1, (0, ⟨#[]⟩, 0), 47) ∧ s1.hd.pages = 3 ∧
    (shPg ks mb).freeChain s1 (228, ⟨#[]⟩, n) = (s2, 0) ∧ s2.hd.spare = 2 ∧ (shPg ks mb).walk s2 (9, ⟨#[]⟩, 0) = (s2, [], [], 1) ∧ ShOk (Sh.start 20) ∧ ShOk s1 ∧ ShOk s2 := by
  have g0 : Good 20 (Sh.start 20) [] 1 0 := Good.start (by decide) (by decide)
  have o0 : ShOk (Sh.start 20) := ShOk.start (by decide) (by decide)
  obtain ⟨s1, c, ns, p, L, a1, a2, a3, a4, a5, a6⟩ := cell_good ks mb g0 (v := v) (by omega) (by rw [hv]; decide)
  have hm := a3
  unfold Means at hm
  rw [if_neg (by omega), hv] at hm
  obtain ⟨hc, hlen, hlaid⟩ := hm
  rw [show parts 228 = 2 from rfl] at hlen
  match ns, hlen with
  | [n, m], _ =>
    have hw := (walk_means ks mb a2 (c := c) (by omega) a3 (fun y hy => List.mem_append_right _ hy)).2
    obtain ⟨s2, b1, b2, b3⟩ := freeChain_good ks mb (a := []) (b := []) (ns := [n, m]) (by simpa using a2) (v := v) (c := c) (by omega) a3
    have e1 := a2.sum
    have e2 := a2.pages
    have e3 := b2.pages
    have e4 := a2.nodup.2 n (by simp)
    have o1 := (shPg ks mb).ok_cell v o0
    rw [a1] at o1
    have o2 := (shPg ks mb).ok_freeChain c o1
    rw [b1] at o2
    obtain ⟨t1, h1⟩ := e2
    obtain ⟨t2, h2⟩ := e3
    subst hc
    refine ⟨s1, s2, n, m, ?_, a1, e4.1, hw, ?_, ?_, b1, ?_, ?_, o0, o1, o2⟩
    · unfold Pg.cell; rw [if_neg (by decide), if_pos (by decide)]; rfl
    · unfold Pg.cell; rw [if_pos (by omega)]
    · rw [h1]; dsimp only; simp at e1; omega
    · rw [h2]; dsimp only; have : L = 0 := by omega
      subst this; rfl
    · unfold Pg.walk; rw [if_pos (by decide)]
theorem head_pages (a c d e f : Value) (b' : Int) (W : World) : (Instr.field 48 (.agg #[a, .int .i64 b', c, d, e, f]) 1).run Tryz.prog W = .ok (.int .i64 b') W := by kernel_rfl
theorem head_spare (a b c e f : Value) (d' : Int) (W : World) : (Instr.field 48 (.agg #[a, b, c, .int .i64 d', e, f]) 3).run Tryz.prog W = .ok (.int .i64 d') W := by kernel_rfl
set_option maxHeartbeats 4000000 in
set_option maxRecDepth 100000 in
theorem awake11_calls (w : World) : Calls Tryz.prog 7 #[] w fun e w' => e = .returned (.bool true) ∧ Below w.heap.size w w' := by
  have hu := Tryz.underlying24
  have hu2 := Tryz.underlying48
  obtain ⟨v, hv, hvl⟩ := long_f 228 (by decide)
  obtain ⟨z, hz, hzl⟩ := long_f 5001 (by decide)
  have HV := Aside0.mk (fun W => long_calls hv W)
  have HZ := Aside0.mk (fun W => long_calls hz W)
  have hvne : v.length ≤ 1000 := by omega
  have HVL := Aside0.mk hvl
  have HZL := Aside0.mk hzl
  clear hv hz hvl hzl
  go_enter Tryz.func7, Tryz.ntmps7
  go_wp2_with fail
  refine (shelfNew_calls 20 w (by decide) (by decide)).mono ?_
  rintro e w0 ⟨ks, mb, rfl, hS, hk1, hk2, hB⟩
  have HO := Aside0.mk (show Own ks mb w.heap.size w w0 (Sh.start 20) from ⟨hS, hk1, hk2, hB, hB.size⟩)
  obtain ⟨s1, s2, n, m, p1, p2, p3, p4, p5, p6, p7, p8, p9, o0, o1, o2⟩ := awake11_plain ks mb HVL.out HZL.out
  clear hS hk1 hk2 hB
  have q1 := fun W hW => shCell_calls ks mb (Sh.start 20) shortL W hW o0 (by decide)
  have q2 := fun W hW => shCell_calls ks mb (Sh.start 20) v W hW o0 (by omega)
  have q3 := fun W hW => shValue_calls ks mb s1 228 ⟨#[]⟩ n W hW o1
  have q4 := fun W hW => shList_calls ks mb s1 228 ⟨#[]⟩ n W hW o1
  have q5 := fun W hW => shCell_calls ks mb s1 z W hW o1 (by have := HZL.out; omega)
  have q6 := fun W hW => shHead_calls ks mb s1 W hW
  have q7 := fun W hW => shFreeChain_calls ks mb s1 228 ⟨#[]⟩ n W hW o1
  have q8 := fun W hW => shValue_calls ks mb s2 9 ⟨#[]⟩ 0 W hW o2
  have q9 := fun W hW => shHead_calls ks mb s2 W hW
  rw [p1] at q1
  rw [p2] at q2
  rw [p4] at q3 q4
  rw [p5] at q5
  rw [p7] at q7
  rw [p9] at q8
  unfold Hd.v at q6 q9
  rw [p6] at q6
  rw [p8] at q9
  have Q1 := Aside0.mk q1
  have Q2 := Aside0.mk q2
  have Q3 := Aside0.mk q3
  have Q4 := Aside0.mk q4
  have Q5 := Aside0.mk q5
  have Q6 := Aside0.mk q6
  have Q7 := Aside0.mk q7
  have Q8 := Aside0.mk q8
  have Q9 := Aside0.mk q9
  have tn : decide (1 ≤ n) = true := decide_eq_true p3
  clear q1 q2 q3 q4 q5 q6 q7 q8 q9 p1 p2 p3 p4 p5 p6 p7 p8 p9 o0 o1 o2
  go_wp2_with fail
  refine (Q1.out _ HO.out.at_).mono ?_
  rintro e w1 ⟨rfl, hs, hf⟩
  replace HO := Aside0.mk (HO.out.fr hs hf)
  clear hs hf Q1
  go_wp2_with fail
  refine (HV.out _).mono ?_
  rintro e w2 ⟨rfl, hb⟩
  have HA := Aside0.mk ((Beside.new HO.out.at_ (.cells #[.int .i64 5, .string (bs shortL), .int .i64 0] 24)).below hb)
  replace HO := Aside0.mk ((HO.out.below (below_alloc (Below.refl _ _) _)).below hb)
  obtain ⟨ga, hga⟩ : ∃ ga, ga = w1.heap.size := ⟨_, rfl⟩
  rw [← hga] at HA ⊢
  clear hb hga
  go_wp2_with fail
  refine (Q2.out _ HO.out.at_).mono ?_
  rintro e w3 ⟨rfl, hs, hf⟩
  replace HO := Aside0.mk (HO.out.fr hs hf)
  replace HA := Aside0.mk (HA.out.fr hf)
  clear hs hf Q2
  go_wp2_with fail
  have HB := Aside0.mk (Beside.new HO.out.at_ (.cells #[.int .i64 228, .string ⟨#[]⟩, .int .i64 n] 24))
  replace HA := Aside0.mk (HA.out.below (below_alloc (Below.refl _ _) (.cells #[.int .i64 228, .string ⟨#[]⟩, .int .i64 n] 24)))
  replace HO := Aside0.mk (HO.out.below (below_alloc (Below.refl _ _) (.cells #[.int .i64 228, .string ⟨#[]⟩, .int .i64 n] 24)))
  refine (Q3.out _ HO.out.at_).mono ?_
  rintro e w4 ⟨rfl, hs, hf⟩
  replace HO := Aside0.mk (HO.out.fr hs hf)
  replace HA := Aside0.mk (HA.out.fr hf)
  replace HB := Aside0.mk (HB.out.fr hf)
  obtain ⟨gb, hgb⟩ : ∃ gb, gb = w3.heap.size := ⟨_, rfl⟩
  rw [← hgb] at HB ⊢
  clear hs hf hgb Q3
  have cgb0 : w4.cell? ⟨gb, 0, none⟩ = some (.int .i64 228) := (blk_cell HB.out.at_ 0).trans rfl
  have cgb1 : w4.cell? ⟨gb, 1, none⟩ = some (.string ⟨#[]⟩) := (blk_cell HB.out.at_ 1).trans rfl
  have cgb2 : w4.cell? ⟨gb, 2, none⟩ = some (.int .i64 n) := (blk_cell HB.out.at_ 2).trans rfl
  go_wp2_with fail
  clear cgb0 cgb1 cgb2
  refine (Q4.out _ HO.out.at_).mono ?_
  rintro e w5 ⟨A, c, rfl, hs, hf, hrow⟩
  have HRow := Aside0.mk hrow
  replace HO := Aside0.mk (HO.out.fr hs hf)
  replace HA := Aside0.mk (HA.out.fr hf)
  replace HB := Aside0.mk (HB.out.fr hf)
  clear hs hf hrow Q4
  go_wp2_with fail
  refine (HZ.out _).mono ?_
  rintro e w6 ⟨rfl, hb⟩
  replace HO := Aside0.mk (HO.out.below hb)
  replace HA := Aside0.mk (HA.out.below hb)
  replace HB := Aside0.mk (HB.out.below hb)
  replace HRow := Aside0.mk (HRow.out.below hb)
  clear hb HZ
  go_wp2_with fail
  refine (Q5.out _ HO.out.at_).mono ?_
  rintro e w7 ⟨rfl, hs, hf⟩
  replace HO := Aside0.mk (HO.out.fr hs hf)
  replace HA := Aside0.mk (HA.out.fr hf)
  replace HB := Aside0.mk (HB.out.fr hf)
  replace HRow := Aside0.mk (HRow.out.fr hf)
  clear hs hf Q5
  go_wp2_with fail
  have hb := below_alloc (Below.refl w7.heap.size w7) (.cells #[.int .i64 0, .string ⟨#[]⟩, .int .i64 0] 24)
  replace HO := Aside0.mk (HO.out.below hb)
  replace HA := Aside0.mk (HA.out.below hb)
  replace HB := Aside0.mk (HB.out.below hb)
  replace HRow := Aside0.mk (HRow.out.below hb)
  clear hb
  refine (Q6.out _ HO.out.at_).mono ?_
  rintro e w8 ⟨rfl, hb⟩
  replace HO := Aside0.mk (HO.out.below hb)
  replace HA := Aside0.mk (HA.out.below hb)
  replace HB := Aside0.mk (HB.out.below hb)
  replace HRow := Aside0.mk (HRow.out.below hb)
  clear hb Q6
  have hfd := head_pages
  have cgb0 : w8.cell? ⟨gb, 0, none⟩ = some (.int .i64 228) := (blk_cell HB.out.at_ 0).trans rfl
  have cgb1 : w8.cell? ⟨gb, 1, none⟩ = some (.string ⟨#[]⟩) := (blk_cell HB.out.at_ 1).trans rfl
  have cgb2 : w8.cell? ⟨gb, 2, none⟩ = some (.int .i64 n) := (blk_cell HB.out.at_ 2).trans rfl
  go_wp2_with fail
  clear cgb0 cgb1 cgb2
  refine (Q7.out _ HO.out.at_).mono ?_
  rintro e w9 ⟨rfl, hs, hf⟩
  replace HO := Aside0.mk (HO.out.fr hs hf)
  replace HA := Aside0.mk (HA.out.fr hf)
  replace HB := Aside0.mk (HB.out.fr hf)
  replace HRow := Aside0.mk (HRow.out.fr hf)
  clear hs hf Q7
  go_wp2_with fail
  refine (Q8.out _ HO.out.at_).mono ?_
  rintro e w10 ⟨rfl, hs, hf⟩
  replace HO := Aside0.mk (HO.out.fr hs hf)
  replace HA := Aside0.mk (HA.out.fr hf)
  replace HB := Aside0.mk (HB.out.fr hf)
  replace HRow := Aside0.mk (HRow.out.fr hf)
  clear hs hf Q8
  obtain ⟨ad, hA, hx⟩ := Kd.at_int (Kd.R_reads' HRow.out).2.2 0 (by decide) (by simp)
  subst hA
  have hx0 : w10.cell? ad = some (.int .i64 n) := by simpa [rd, Addr.add] using hx
  have hadl := Kd.R_lt HRow.out ad.block rfl
  have HS : Aside0 (∀ w', Below w10.heap.size w10 w' → w'.cell? ⟨ga, 0, none⟩ = some (.int .i64 5) ∧ w'.cell? ⟨ga, 1, none⟩ = some (.string (bs shortL)) ∧ w'.cell? ⟨ga, 2, none⟩ = some (.int .i64 0) ∧ w'.cell? ⟨gb, 0, none⟩ = some (.int .i64 228) ∧ w'.cell? ⟨gb, 1, none⟩ = some (.string ⟨#[]⟩) ∧ w'.cell? ⟨gb, 2, none⟩ = some (.int .i64 n) ∧ w'.cell? ad = some (.int .i64 n)) :=
    ⟨fun w' hb => ⟨(blk_cell (HA.out.below hb).at_ 0).trans rfl, (blk_cell (HA.out.below hb).at_ 1).trans rfl, (blk_cell (HA.out.below hb).at_ 2).trans rfl, (blk_cell (HB.out.below hb).at_ 0).trans rfl, (blk_cell (HB.out.below hb).at_ 1).trans rfl, (blk_cell (HB.out.below hb).at_ 2).trans rfl, (hb.cell hadl).trans hx0⟩⟩
  have hfe := head_spare
  have hsh : (bs shortL).toList = [115, 104, 111, 114, 116] := by rw [ByteArray.toList_eq]; rfl
  clear hx hx0 hadl HA HB
  go_wp2_with fail
  refine region_below w10.heap.size (Nat.le_refl _) (by kernel_rfl) (by kernel_rfl) ?_
  iterate 23 (
    refine q_valw (by rfl) (v := ?_) (a' := ?_) ?_ ?_ ?_
    rotate_left
    rotate_left
    · intro w' hw'
      obtain ⟨e0, e1, e2, e3, e4, e5, e6⟩ := HS.out w' hw'
      go_simp
      with_reducible rfl
    · simp only [Act.put, List.setIfInBounds_toArray, List.set_cons_zero, List.set_cons_succ]
      rfl
    )
  refine q_callw (by rfl) (v := .string (bs v)) (a' := ?_) (f := 24) (args := #[.int .i64 228]) ?_ ?_ ?_ ?_
  rotate_left
  · intro w' hw'
    go_simp
  · intro w' hw'
    exact (HV.out w').mono fun _ _ hh => ⟨hh.1, below_then hw' hw'.size hh.2⟩
  · simp only [Act.put, List.setIfInBounds_toArray, List.set_cons_zero, List.set_cons_succ]
    rfl
  iterate 37 (
    refine q_valw (by rfl) (v := ?_) (a' := ?_) ?_ ?_ ?_
    rotate_left
    rotate_left
    · intro w' hw'
      obtain ⟨e0, e1, e2, e3, e4, e5, e6⟩ := HS.out w' hw'
      go_simp
      with_reducible rfl
    · simp only [Act.put, List.setIfInBounds_toArray, List.set_cons_zero, List.set_cons_succ]
      rfl
    )
  refine q_callw (by rfl) (v := .agg #[.int .i64 s2.hd.mode, .int .i64 s2.hd.pages, .int .i64 s2.hd.trunk, .int .i64 2, .int .i64 s2.hd.root, .int .u64 s2.hd.change]) (a' := ?_) (f := 18) (args := #[.pointer (some ⟨ks, 0, none⟩)]) ?_ ?_ ?_ ?_
  rotate_left
  · intro w' hw'
    go_simp
  · intro w' hw'
    exact (Q9.out w' (HO.out.below hw').at_).mono fun _ _ hh => ⟨hh.1, below_then hw' hw'.size hh.2⟩
  · simp only [Act.put, List.setIfInBounds_toArray, List.set_cons_zero, List.set_cons_succ]
    rfl
  iterate 8 (
    refine q_valw (by rfl) (v := ?_) (a' := ?_) ?_ ?_ ?_
    rotate_left
    rotate_left
    · intro w' hw'
      obtain ⟨e0, e1, e2, e3, e4, e5, e6⟩ := HS.out w' hw'
      go_simp
      with_reducible rfl
    · simp only [Act.put, List.setIfInBounds_toArray, List.set_cons_zero, List.set_cons_succ]
      rfl
    )
  refine wpQuiet_nil ?_
  intro w' hw'
  replace HO := Aside0.mk (HO.out.below hw')
  clear HS hw' Q9 HV
  go_wp2
  go_ret
  exact ⟨rfl, HO.out.base⟩
end Go.Proofs.YtonbipaajhokfaaGreatDoor
end
section
set_option linter.unusedVariables false
set_option linter.unusedSimpArgs false
namespace Go.Proofs.YtonbipaajhokfaaGreatDoor
open Go.RowKit Go.Proofs.YtonbipaajhokfaaGreatDoorW.PrintWords Go.Proofs.YtonbipaajhokfaaGreatDoorW.PrintLast Go.Proofs.YtonbipaajhokfaaGreatDoorW.PrintMore
theorem new_hd (mb : Nat) {s s' : Sh} {n : Int} (h : s.new mb = (s', n, 0)) :
    s'.hd.pages = (if s.hd.spare = 0 then s.hd.pages + 1 else s.hd.pages) ∧ s'.hd.spare = (if s.hd.spare = 0 then s.hd.spare else s.hd.spare - 1) := by
  have he : (s.new mb).2.2 = 0 := by rw [h]
  have e1 : s' = (s.new mb).1 := by rw [h]
  subst e1
  unfold Sh.new at he ⊢
  by_cases c0 : s.left = 0
  · rw [if_pos c0] at he; cases he
  · rw [if_neg c0] at he ⊢
    by_cases c1 : s.hd.spare = 0 ∧ s.limit ≤ s.hd.pages
    · rw [if_pos c1] at he; cases he
    · rw [if_neg c1] at he ⊢
      by_cases c2 : ((mapShop mb).take s.f s.hd).2.2.2 ≠ 0
      · rw [if_pos c2] at he; exact absurd he c2
      · rw [if_neg c2]
        exact take_hd mb s.f s.hd (Decidable.not_not.1 c2)
theorem put_hd (s : Sh) (n : Int) (d : ByteArray) : (s.put n d).1.hd = s.hd := by
  unfold Sh.put
  repeat' split
  all_goals rfl
theorem lay_hd (ks mb : Nat) (v : List UInt8) : ∀ (k : Nat) {s s' : Sh} (next : Int) {n : Int}, (shPg ks mb).lay v k s next = (s', n, 0) → (k : Int) ≤ s.hd.spare →
    s'.hd.pages = s.hd.pages ∧ s'.hd.spare = s.hd.spare - k := by
  intro k
  induction k with
  | zero => intro s s' next n h hk; unfold Pg.lay at h; injection h with h1 h2; subst h1; simp
  | succ k ih =>
    intro s s' next n h hk
    unfold Pg.lay at h
    split at h
    · rename_i hne; exact absurd (congrArg (fun x => x.2.2) h) hne
    · rename_i he
      split at h
      · rename_i hne; exact absurd (congrArg (fun x => x.2.2) h) hne
      · have hn : ((shPg ks mb).new s).2.2 = 0 := Decidable.not_not.1 he
        have hnew := new_hd mb (s := s) (s' := (s.new mb).1) (n := (s.new mb).2.1) (Prod.ext rfl (Prod.ext rfl hn))
        rw [if_neg (by omega), if_neg (by omega)] at hnew
        have hp : ∀ (d : ByteArray), ((shPg ks mb).put ((shPg ks mb).new s).1 ((shPg ks mb).new s).2.1 d).1.hd = (s.new mb).1.hd := fun d => put_hd _ _ _
        have a := ih _ h (by rw [hp, hnew.2]; omega)
        rw [hp, hnew.1, hnew.2] at a
        exact ⟨a.1, by rw [a.2]; omega⟩
theorem cell_hd (ks mb : Nat) {s s' : Sh} {v : List UInt8} {c : Cel} (h : (shPg ks mb).cell s v = (s', c, 0)) (hk : (partsOf v.length : Int) ≤ s.hd.spare) :
    s'.hd.pages = s.hd.pages ∧ s'.hd.spare = s.hd.spare - partsOf v.length := by
  unfold Pg.cell at h
  unfold partsOf at hk ⊢
  split at h
  · have := congrArg (fun x => x.2.2) h; cases this
  · split at h
    · rename_i h4
      rw [if_pos h4]
      injection h with h1 h2; subst h1; simp
    · rename_i h4
      rw [if_neg h4] at hk ⊢
      split at h
      · rename_i hne; exact absurd (congrArg (fun x => x.2.2) h) hne
      · rename_i he
        have e1 : s' = ((shPg ks mb).lay v (parts v.length) s 0).1 := (congrArg (fun x => x.1) h).symm
        refine lay_hd ks mb v (parts v.length) (s := s) 0 (n := ((shPg ks mb).lay v (parts v.length) s 0).2.1) ?_ hk
        rw [e1]
        exact Prod.ext rfl (Prod.ext rfl (Decidable.not_not.1 he))
abbrev cel0 : Cel := (0, ⟨#[]⟩, 0)
theorem partsOf_le {n : Nat} (h : n ≤ 5000) : partsOf n ≤ 23 := by unfold partsOf parts; split <;> omega
theorem flat_le : ∀ (l : List (List Int)), (∀ x ∈ l, x.length ≤ 23) → l.flatten.length ≤ 23 * l.length
  | [], _ => by simp
  | a :: r, h => by
    have h1 := flat_le r (fun x hx => h x (by simp [hx]))
    have h2 := h a (by simp)
    simp only [List.flatten_cons, List.length_append, List.length_cons]
    omega
/-- The chains of the values vs on a shelf of 300 pages of which none was freed. -/
structure Chains (s : Sh) (cs : List Cel) (vs : List (List UInt8)) (nss : List (List Int)) (p : Int) : Prop where
  good : Good 300 s nss.flatten p 0
  ok : ShOk s
  lc : cs.length = vs.length
  ln : nss.length = vs.length
  each : ∀ j, j < vs.length → Means (readB s.f) (cs.getD j cel0) (vs.getD j []) (nss.getD j [])
  short : ∀ j, j < vs.length → (vs.getD j []).length ≤ 5000
theorem Chains.start : Chains (Sh.start 300) [] [] [] 1 :=
  ⟨Good.start (by decide) (by decide), ShOk.start (by decide) (by decide), rfl, rfl, fun j h => absurd h (by simp), fun j h => absurd h (by simp)⟩
section
variable {s : Sh} {cs : List Cel} {vs : List (List UInt8)} {nss : List (List Int)} {p : Int}
theorem getD_left {α : Type} {l : List α} {j : Nat} (h : j < l.length) (r : List α) (z : α) : (l ++ r).getD j z = l.getD j z := by
  rw [List.getD_eq_getElem?_getD, List.getD_eq_getElem?_getD, List.getElem?_append_left h]
theorem getD_last {α : Type} (l : List α) (x z : α) {j : Nat} (h : j = l.length) : (l ++ [x]).getD j z = x := by
  subst h; simp [List.getD_eq_getElem?_getD]
theorem mem_getD {α : Type} {l : List α} {j : Nat} (h : j < l.length) (z : α) : l.getD j z ∈ l := by
  rw [List.getD_eq_getElem?_getD, List.getElem?_eq_getElem h]; exact List.getElem_mem h
theorem Chains.few (h : Chains s cs vs nss p) : ∀ x ∈ nss, x.length ≤ 23 := by
  intro x hx
  obtain ⟨j, hj, e⟩ := List.getElem_of_mem hx
  have hj2 : j < vs.length := by rw [← h.ln]; exact hj
  have := (h.each j hj2).len
  rw [List.getD_eq_getElem?_getD (l := nss), List.getElem?_eq_getElem hj, Option.getD_some, e] at this
  rw [this]
  exact partsOf_le (h.short j hj2)
theorem Chains.small (h : Chains s cs vs nss p) : nss.flatten.length ≤ 23 * vs.length := by rw [← h.ln]; exact flat_le _ h.few
theorem Chains.step (ks mb : Nat) (h : Chains s cs vs nss p) {v : List UInt8} (hv : v.length ≤ 5000) (hn : vs.length < 6) :
    ∃ s' c ns p', (shPg ks mb).cell s v = (s', c, 0) ∧ Chains s' (cs ++ [c]) (vs ++ [v]) (nss ++ [ns]) p' := by
  have hs := h.small
  have hp := partsOf_le hv
  obtain ⟨s', c, ns, p', L', a1, a2, a3, a4, a5, a6⟩ := cell_good ks mb h.good hv (by omega)
  have e0 : L' = 0 := by omega
  subst e0
  have hlc := h.lc
  have hln := h.ln
  refine ⟨s', c, ns, p', a1, ?_, ?_, by simp [hlc], by simp [hln], fun j hj => ?_, fun j hj => ?_⟩
  · rw [List.flatten_append]; simpa using a2
  · have := (shPg ks mb).ok_cell v h.ok
    rw [a1] at this
    exact this
  · rw [List.length_append, List.length_singleton] at hj
    by_cases e : j < vs.length
    · rw [getD_left (by omega), getD_left e, getD_left (by omega)]
      exact (h.each j e).keep (fun y hy => a5 y (List.mem_flatten.2 ⟨_, mem_getD (by omega) _, hy⟩))
    · rw [getD_last cs c _ (by omega), getD_last vs v _ (by omega), getD_last nss ns _ (by omega)]
      exact a3
  · rw [List.length_append, List.length_singleton] at hj
    by_cases e : j < vs.length
    · rw [getD_left e]; exact h.short j e
    · rw [getD_last vs v _ (by omega)]; exact hv
theorem split_mid {α : Type} (l : List α) (k : Nat) (z : α) (h : k < l.length) : l = l.take k ++ l.getD k z :: l.drop (k + 1) := by
  have e : l.getD k z = l[k] := by rw [List.getD_eq_getElem?_getD, List.getElem?_eq_getElem h]; rfl
  rw [e, ← List.drop_eq_getElem_cons h, List.take_append_drop]
theorem Chains.hd (h : Chains s cs vs nss p) : s.hd.spare = 0 ∧ s.hd.pages = p ∧ 1 ≤ p ∧ p ≤ 300 := by
  obtain ⟨t, e⟩ := h.good.pages
  have := h.good.sum
  rw [e]
  exact ⟨rfl, rfl, by omega, by omega⟩
theorem Chains.back (ks mb : Nat) (h : Chains s cs vs nss p) (hn : vs.length ≤ 6) {k : Nat} (hk : k < vs.length) :
    (shPg ks mb).walk s (cs.getD k cel0) = (s, vs.getD k [], nss.getD k [], 0) ∧ (nss.getD k []).length ≤ 23 ∧
    ∃ s2, (shPg ks mb).freeChain s (cs.getD k cel0) = (s2, 0) ∧ ShOk s2 ∧ s2.hd.pages = p ∧ s2.hd.spare = (nss.getD k []).length ∧
      (∀ j, j < vs.length → j ≠ k → (shPg ks mb).walk s2 (cs.getD j cel0) = (s2, vs.getD j [], nss.getD j [], 0)) ∧
      ∃ s3 c3 ns3, (shPg ks mb).cell s2 (vs.getD k []) = (s3, c3, 0) ∧ ShOk s3 ∧ s3.hd.pages = p ∧ s3.hd.spare = 0 ∧ (shPg ks mb).walk s3 c3 = (s3, vs.getD k [], ns3, 0) := by
  have hkn : k < nss.length := by rw [h.ln]; exact hk
  have hm := h.each k hk
  have hv := h.short k hk
  have hsm := h.small
  have hl23 := h.few _ (mem_getD hkn [])
  have hsp := split_mid nss k [] hkn
  have hfl : nss.flatten = (nss.take k).flatten ++ nss.getD k [] ++ (nss.drop (k + 1)).flatten := by
    conv => lhs; rw [hsp]
    simp
  have hg := h.good
  rw [hfl] at hg
  obtain ⟨s2, b1, b2, b3⟩ := freeChain_good ks mb hg hv hm
  have hlen : (((nss.take k).flatten ++ (nss.drop (k + 1)).flatten).length : Int) + (nss.getD k []).length = nss.flatten.length := by
    rw [hfl]; simp only [List.length_append]; omega
  have hpo : (nss.getD k []).length = partsOf (vs.getD k []).length := hm.len
  obtain ⟨t2, e2⟩ := b2.pages
  have ho2 : ShOk s2 := by
    have := (shPg ks mb).ok_freeChain (cs.getD k cel0) h.ok
    rw [b1] at this
    exact this
  refine ⟨(walk_means ks mb h.good hv hm (fun y hy => List.mem_flatten.2 ⟨_, mem_getD hkn _, hy⟩)).2, hl23, s2, b1, ho2, by rw [e2], by rw [e2]; simp, fun j hj hjk => ?_, ?_⟩
  · have hin : ∀ y ∈ nss.getD j [], y ∈ (nss.take k).flatten ++ (nss.drop (k + 1)).flatten := by
      intro y hy
      have hjn : j < nss.length := by rw [h.ln]; exact hj
      rcases Nat.lt_or_gt_of_ne hjk with e | e
      · refine List.mem_append_left _ (List.mem_flatten.2 ⟨nss.getD j [], ?_, hy⟩)
        rw [List.getD_eq_getElem?_getD, List.getElem?_eq_getElem hjn, Option.getD_some]
        exact List.mem_take_iff_getElem.2 ⟨j, by omega, rfl⟩
      · refine List.mem_append_right _ (List.mem_flatten.2 ⟨nss.getD j [], ?_, hy⟩)
        rw [List.getD_eq_getElem?_getD, List.getElem?_eq_getElem hjn, Option.getD_some]
        exact List.mem_drop_iff_getElem.2 ⟨j - (k + 1), by omega, by congr 1; omega⟩
    exact (walk_means ks mb b2 (h.short j hj) ((h.each j hj).keep (fun y hy => b3 y (hin y hy))) hin).2
  · obtain ⟨s3, c3, ns3, p3, L3, d1, d2, d3, d4, d5, d6⟩ := cell_good ks mb b2 hv (by rw [← hpo]; omega)
    have hh := cell_hd ks mb d1 (by rw [e2, ← hpo]; simp)
    have ho3 : ShOk s3 := by
      have := (shPg ks mb).ok_cell (vs.getD k []) ho2
      rw [d1] at this
      exact this
    refine ⟨s3, c3, ns3, d1, ho3, by rw [hh.1, e2], by rw [hh.2, e2, ← hpo]; simp, (walk_means ks mb d2 hv d3 (fun y hy => List.mem_append_right _ hy)).2⟩
end
end Go.Proofs.YtonbipaajhokfaaGreatDoor
end
section
set_option linter.unusedVariables false
set_option linter.unusedSimpArgs false
namespace Go.Proofs.YtonbipaajhokfaaGreatDoor
open Go.RowKit Go.Proofs.YtonbipaajhokfaaGreatDoorW.PrintWords Go.Proofs.YtonbipaajhokfaaGreatDoorW.PrintLast Go.Proofs.YtonbipaajhokfaaGreatDoorW.PrintMore
theorem infoCel : (Tryz.prog.info? 24).map (fun i => (i.zero, i.size, i.bytes)) = some (some (.agg #[.int .i64 0, .string ⟨#[]⟩, .int .i64 0]), 3, 32) := by kernel_rfl
def okB (ks mb B : Nat) (k : Nat) : Prop := k ≠ ks ∧ k ≠ mb ∧ B ≤ k
/-- A row of cells in memory, apart from the shelf. -/
def CelsAt (ks mb B : Nat) (w : World) (v : Value) (cs : List Cel) : Prop := celK.R 24 w 0 (okB ks mb B) v cs
section
variable {ks mb B : Nat} {w0 w w' : World} {v : Value} {cs : List Cel} {s : Sh}
theorem CelsAt.fr (h : CelsAt ks mb B w v cs) (hf : Fr (ShF ks mb) w w') : CelsAt ks mb B w' v cs :=
  Kd.R_step h (fun k ho hlt => hf.block k hlt (fun hh => by rcases hh with e | e; exact ho.1 e; exact ho.2.1 e))
theorem CelsAt.below (h : CelsAt ks mb B w v cs) (hb : Below w.heap.size w w') : CelsAt ks mb B w' v cs := Kd.R_below h hb
theorem CelsAt.start (hok : okB ks mb B w.heap.size) : CelsAt ks mb B (w.alloc (.cells #[] 24)) (.slice (some ⟨w.heap.size, 0, none⟩) 0 0) [] :=
  ⟨fun k hk => by
    have : w.heap.size = k := by simpa [Value.ownBlock] using hk
    exact this ▸ hok, [], World.ownsRow_lit (base := 0) (e := 24) (size := 3) w #[] 0 (Nat.zero_le _) (by simp [maxLen]) rfl, Reps.none _ _⟩
theorem Own.okB (h : Own ks mb B w0 w s) {k : Nat} (hk : w.heap.size ≤ k) : okB ks mb B k :=
  ⟨fun e => by have := h.at_.lt; omega, fun e => by have := h.at_.2.lt; omega, Nat.le_trans h.size hk⟩
theorem Own.grownB {row : Option Nat} (h : Own ks mb B w0 w s) (hg : w.grownBy w' row) (hr : ∀ k, row = some k → Go.Proofs.YtonbipaajhokfaaGreatDoor.okB ks mb B k) : Own ks mb B w0 w' s :=
  ⟨⟨(hg.block ks h.at_.lt (fun e => (hr ks e.symm).1 rfl)).trans h.at_.1, h.at_.2.keep (hg.block mb h.at_.2.lt (fun e => (hr mb e.symm).2.1 rfl))⟩, h.ks, h.mb, h.base.grown hg h.size (fun k hk => (hr k hk).2.2), Nat.le_trans h.size hg.size⟩
theorem CelsAt.own (h : CelsAt ks mb B w v cs) : ∀ k, v.ownBlock = some k → okB ks mb B k := h.1
end
theorem head_of (ks mb : Nat) {s : Sh} {p sp : Int} (hp : s.hd.pages = p) (hs : s.hd.spare = sp) : ∃ (m t r ch : Int), ∀ w, ShAt ks mb w s → Calls Tryz.prog 18 #[.pointer (some ⟨ks, 0, none⟩)] w fun e w' =>
    e = .returned (.agg #[.int .i64 m, .int .i64 p, .int .i64 t, .int .i64 sp, .int .i64 r, .int .u64 ch]) ∧ Below w.heap.size w w' := by
  subst hp hs
  exact ⟨s.hd.mode, s.hd.trunk, s.hd.root, s.hd.change, fun w h => shHead_calls ks mb s w h⟩
def vl (vs : List ByteArray) : List (List UInt8) := vs.map (fun v => v.data.toList)
theorem vl_at {vs : List ByteArray} {j : Nat} (h : j < vs.length) : (vl vs).getD j [] = (rdOf ByteArray.empty vs (j : Int)).data.toList := by
  unfold vl rdOf
  rw [Int.toNat_natCast, List.getD_eq_getElem?_getD, List.getElem?_map, List.getD_eq_getElem?_getD, List.getElem?_eq_getElem h]
  rfl
theorem vl_take {vs : List ByteArray} {j : Nat} (h : j < vs.length) : (vl vs).take (j + 1) = (vl vs).take j ++ [(rdOf ByteArray.empty vs (j : Int)).data.toList] := by
  have hl : j < (vl vs).length := by unfold vl; simpa using h
  rw [List.take_succ_eq_append_getElem hl, ← vl_at h, List.getD_eq_getElem?_getD, List.getElem?_eq_getElem hl]
  rfl
set_option maxHeartbeats 8000000 in
set_option maxRecDepth 100000 in
theorem chainBack_calls (Ax : Option Addr) (cx : Nat) (vs : List ByteArray) (a : Int) (w : World) (hvs : Kd.string.C w Ax vs.length vs) (hsz : ∀ j : Nat, j < vs.length → (rdOf ByteArray.empty vs (j : Int)).size ≤ 9223372036854775807) :
    Calls Tryz.prog 5 #[.slice Ax vs.length cx, .int .i64 a] w fun e w' => e = .returned (.bool true) ∧ Below w.heap.size w w' := by
  have hu := Tryz.underlying24
  have huh := Tryz.underlying48
  have hmv := Kd.C_max hvs
  have HVS := Aside0.mk hvs
  clear hvs
  go_enter Tryz.func5, Tryz.ntmps5
  go_wp2_with fail
  refine (awake11_calls w).mono ?_
  rintro e wa ⟨rfl, hba⟩
  have HBA := Aside0.mk hba
  clear hba
  by_cases h6 : 6 < vs.length
  · have t6 : decide ((6 : Int) < (vs.length : Int)) = true := decide_eq_true (by omega)
    go_wp2
    go_ret
    exact ⟨rfl, HBA.out⟩
  by_cases h0 : vs.length = 0
  · have t6 : decide ((6 : Int) < (vs.length : Int)) = false := decide_eq_false (by omega)
    have t0 : ((vs.length : Int) == 0) = true := by simp [h0]
    go_wp2
    go_ret
    exact ⟨rfl, HBA.out⟩
  have t6 : decide ((6 : Int) < (vs.length : Int)) = false := decide_eq_false (by omega)
  have t0 : ((vs.length : Int) == 0) = false := beq_false_of (by omega)
  obtain ⟨k, hk, hki⟩ := idx_ a vs.length (by omega) (by omega)
  have HKI := Aside0.mk hki
  have HSZ := Aside0.mk hsz
  clear hki hsz
  go_wp2_with fail
  refine (shelfNew_calls 300 wa (by decide) (by decide)).mono ?_
  rintro e w0 ⟨ks, mb, rfl, hS, hk1, hk2, hB⟩
  have HO0 := Aside0.mk (show Own ks mb wa.heap.size wa w0 (Sh.start 300) from ⟨hS, hk1, hk2, hB, hB.size⟩)
  clear hS hk1 hk2 hB
  go_wp2_with fail
  obtain ⟨w1, hw1⟩ : ∃ w1, w1 = w0.alloc (.cells #[] 24) := ⟨_, rfl⟩
  have HCL := Aside0.mk (show CelsAt ks mb wa.heap.size w1 (.slice (some ⟨w0.heap.size, 0, none⟩) 0 0) [] by rw [hw1]; exact CelsAt.start (HO0.out.okB (Nat.le_refl _)))
  have HO := Aside0.mk (show Own ks mb wa.heap.size wa w1 (Sh.start 300) by rw [hw1]; exact HO0.out.below (below_alloc (Below.refl _ _) _))
  have HCH := Aside0.mk Chains.start
  rw [← hw1]
  clear hw1 HO0
  go_loopw [6, 7] (fun cv i wr => ∃ (j : Nat) (s : Sh) (cs : List Cel) (nss : List (List Int)) (p : Int), j ≤ vs.length ∧ i = .int .i64 j ∧ Aside0 (Own ks mb wa.heap.size wa wr s) ∧ Aside0 (Chains s cs ((vl vs).take j) nss p) ∧ Aside0 (CelsAt ks mb wa.heap.size wr cv cs)) (fun _ i _ => vs.length - (intOf i).toNat)
  case atStart => exact ⟨0, _, [], [], 1, Nat.zero_le _, rfl, HO, by rw [List.take_zero]; exact HCH, HCL⟩
  case round =>
    clear HO HCH HCL
    obtain ⟨j, s, cs, nss, p, hj, rfl, HO, HCH, HCL⟩ := hrel
    obtain ⟨A, c, rfl⟩ := Kd.R_slice HCL.out
    have hvl : (vl vs).length = vs.length := by simp [vl]
    have hcl : cs.length = j := by rw [HCH.out.lc, List.length_take, hvl]; omega
    rw [hcl] at HCL ⊢
    have HCLN := Aside0.mk hcl
    clear hcl
    by_cases hlt : j < vs.length
    · have t1 : decide ((j : Int) < (vs.length : Int)) = true := decide_eq_true (by omega)
      have HST := Aside0.mk (vl_take hlt)
      have hxs := HSZ.out j hlt
      have HRD := Aside0.mk (fun W (hW : Below w.heap.size w W) => Kd.at_string (Kd.C_below HVS.out hW) (j : Int) (by omega) (by omega))
      obtain ⟨x, hxd⟩ : ∃ x, x = rdOf ByteArray.empty vs (j : Int) := ⟨_, rfl⟩
      rw [← hxd] at HST hxs HRD
      clear hxd hvl
      have HBW := Aside0.mk (HBA.out.trans (HO.out.base.mono HBA.out.size))
      obtain ⟨ad, hA, hx⟩ := HRD.out wr HBW.out
      subst hA
      rw [Int.toNat_natCast] at hx
      have hbx : bs x.data.toList = x := bs_of x
      have hlx : x.data.toList.length = x.size := data_length x
      by_cases hlong : 5000 < x.size
      · have tl : decide ((5000 : Int) < (x.size : Int)) = true := decide_eq_true (by omega)
        have hc := fun W hW => shCell_calls ks mb s x.data.toList W hW HCH.out.ok (by omega)
        rw [show (shPg ks mb).cell s x.data.toList = (s, (0, ⟨#[]⟩, 0), 47) by unfold Pg.cell; rw [if_pos (by omega)], hbx] at hc
        have HC := Aside0.mk hc
        clear hc hbx hlx hlong
        go_wp2_with fail
        refine (HC.out _ HO.out.at_).mono ?_
        rintro e w2 ⟨rfl, hs, hf⟩
        replace HO := Aside0.mk (HO.out.fr hs hf)
        clear hs hf HC hx
        have hx := (HRD.out w2 (HBA.out.trans (HO.out.base.mono HBA.out.size)))
        obtain ⟨ad2, hA, hx⟩ := hx
        injection hA with hA
        subst hA
        rw [Int.toNat_natCast] at hx
        replace hx := fun o => pw_cell_below (below_alloc (Below.refl _ _) o) hx
        go_wp2
        go_ret
        exact ⟨rfl, HBA.out.trans ((HO.out.below (below_alloc (Below.refl _ _) _)).base.mono HBA.out.size)⟩
      · have tl : decide ((5000 : Int) < (x.size : Int)) = false := decide_eq_false (by omega)
        obtain ⟨s', ⟨c0, c1, c2⟩, ns, p', hc1, hch⟩ := HCH.out.step ks mb (v := x.data.toList) (by omega) (by rw [List.length_take]; simp only [vl, List.length_map]; omega)
        have hc := fun W hW => shCell_calls ks mb s x.data.toList W hW HCH.out.ok (by omega)
        rw [hc1, hbx] at hc
        have HC := Aside0.mk hc
        rw [← HST.out] at hch
        replace HCH := Aside0.mk hch
        clear hc hc1 hch hbx hlx hlong
        go_wp2_with fail
        refine (HC.out _ HO.out.at_).mono ?_
        rintro e w2 ⟨rfl, hs, hf⟩
        replace HO := Aside0.mk (HO.out.fr hs hf)
        replace HCL := Aside0.mk (HCL.out.fr hf)
        clear hs hf HC hx
        have hx := (HRD.out w2 (HBA.out.trans (HO.out.base.mono HBA.out.size)))
        obtain ⟨ad2, hA, hx⟩ := hx
        injection hA with hA
        subst hA
        rw [Int.toNat_natCast] at hx
        replace hx := fun o => pw_cell_below (below_alloc (Below.refl _ _) o) hx
        have HO3 := Aside0.mk (HO.out.below (below_alloc (Below.refl _ _) (.cells #[.int .i64 c0, .string c1, .int .i64 c2] 24)))
        have HCL3 := Aside0.mk (HCL.out.below (below_alloc (Below.refl _ _) (.cells #[.int .i64 c0, .string c1, .int .i64 c2] 24)))
        clear HO HCL
        go_wp2_with (at_builtin; go_loud (refine Kd.R_append celK (W := w2.alloc (.cells #[.int .i64 c0, .string c1, .int .i64 c2] 24)) (w0 := w2.alloc (.cells #[.int .i64 c0, .string c1, .int .i64 c2] 24)) 0 rfl (.tmp 62) (.tmp 64) 56 24 (.agg #[.int .i64 0, .string ⟨#[]⟩, .int .i64 0]) 32 rfl Tryz.underlying56 infoCel rfl (by decide) (by decide) (.slice A j c) cs (c0, c1, c2) [.int .i64 c0, .string c1, .int .i64 c2] (okB ks mb wa.heap.size) (fun k => some k ≠ (Value.slice A j c).ownBlock ∧ okB ks mb wa.heap.size k) rfl (by show Value.slice (some ⟨w2.heap.size + 1, 0, none⟩) 1 1 = _; simp) ⟨[_], [_, _], rfl, rfl, [_], [_], rfl, rfl, rfl⟩ (fun _ h => ⟨h.2, h.1⟩) (fun _ hk => HO3.out.okB hk) HCL3.out (Below.refl 0 _) (Nat.zero_le _) (by have := HCLN.out; omega) ?_; intro v1 w4 hR4 hB4 hG4 hat4; have HCL := Aside0.mk (show CelsAt ks mb wa.heap.size w4 v1 (cs ++ [(c0, c1, c2)]) from hR4); have HO := Aside0.mk (HO3.out.grownB hG4 (HCL3.out.own)); clear hR4 hB4 hG4 hat4))
        go_wp2
        go_roundw
        case rel => exact ⟨j + 1, s', _, _, p', by omega, by go_num, HO, HCH, HCL⟩
        case measure => simp only [intOf]; omega
    · obtain rfl : j = vs.length := by omega
      have t1 : decide ((vs.length : Int) < (vs.length : Int)) = false := decide_eq_false (by omega)
      rw [show (vl vs).take vs.length = vl vs from List.take_of_length_le (by rw [hvl]; exact Nat.le_refl _)] at HCH
      have hki : wrap64 ((IntKind.u64.wrap a).tmod (vs.length : Int)) = k := HKI.out
      have hwu : IntKind.u64.wrap (vs.length : Int) = vs.length := by rw [IntKind.wrap_u64]; omega
      have hkc : k < cs.length := by rw [HCLN.out]; exact hk
      have HCC := Aside0.mk (fun W (h : CelsAt ks mb wa.heap.size W (.slice A vs.length c) cs) => cel_at (Kd.R_reads' h).2.2 hkc cel0)
      have HBK := Aside0.mk (HCH.out.back ks mb (by rw [hvl]; omega) (by rw [hvl]; exact hk))
      have HHD := Aside0.mk HCH.out.hd
      have HOK := Aside0.mk HCH.out.ok
      obtain ⟨⟨y0, y1, y2⟩, hy⟩ : ∃ y, y = cs.getD k cel0 := ⟨_, rfl⟩
      rw [← hy] at HCC HBK
      have HY := Aside0.mk hy
      obtain ⟨ns, hns⟩ : ∃ ns, ns = nss.getD k [] := ⟨_, rfl⟩
      rw [← hns] at HBK
      obtain ⟨hw1, hnl, s2, hfr, ho2, hp2, hsp2, hoth, s3, ⟨z0, z1, z2⟩, ns3, hc3, ho3, hp3, hsp3, hw3⟩ := HBK.out
      obtain ⟨ad, hA, b0, b1, b2⟩ := HCC.out wr HCL.out
      subst hA
      dsimp only at b0 b1 b2
      have HL := Aside0.mk (fun W hW => shList_calls ks mb s y0 y1 y2 W hW HOK.out)
      rw [hw1] at HL
      have HF := Aside0.mk (fun W hW => shFreeChain_calls ks mb s y0 y1 y2 W hW HOK.out)
      rw [hfr] at HF
      have HSP := Aside0.mk hsp2
      have HP2 := Aside0.mk hp2
      have HOTH := Aside0.mk hoth
      have HC3 := Aside0.mk hc3
      have HO3 := Aside0.mk ho3
      have HO2 := Aside0.mk ho2
      have HP3 := Aside0.mk (And.intro hp3 hsp3)
      have HW3 := Aside0.mk hw3
      clear hw1 hfr ho2 hp2 hsp2 hoth hc3 ho3 hp3 hsp3 hw3 HBK hy hns hlt hj hkc HKI
      go_wp2_with fail
      clear b0 b1 b2
      refine (HL.out _ HO.out.at_).mono ?_
      rintro e w2 ⟨A2, cp, rfl, hs, hf, hrow⟩
      replace HO := Aside0.mk (HO.out.fr hs hf)
      replace HCL := Aside0.mk (HCL.out.fr hf)
      clear hs hf hrow HL
      obtain ⟨m1, q1, r1, ch1, hh1⟩ := head_of ks mb (s := s) HHD.out.2.1 HHD.out.1
      obtain ⟨m2, q2, r2, ch2, hh2⟩ := head_of ks mb (s := s2) HP2.out HSP.out
      have HH1 := Aside0.mk hh1
      have HH2 := Aside0.mk hh2
      have HCD := Aside0.mk (fun W (h : CelsAt ks mb wa.heap.size W (.slice (some ad) vs.length c) cs) => show W.cell? (ad.add (k * 3)) = some (.int .i64 y0) ∧ W.cell? ⟨(ad.add (k * 3)).block, (ad.add (k * 3)).off + 1, none⟩ = some (.string y1) ∧ W.cell? ⟨(ad.add (k * 3)).block, (ad.add (k * 3)).off + 2, none⟩ = some (.int .i64 y2) by
        obtain ⟨ad', e, h0, h1, h2⟩ := HCC.out W h
        injection e with e
        subst e
        exact ⟨h0, h1, h2⟩)
      clear hh1 hh2 HCC
      dsimp only
      go_wp2_with fail
      refine (HH1.out _ HO.out.at_).mono ?_
      rintro e w3 ⟨rfl, hb⟩
      replace HO := Aside0.mk (HO.out.below hb)
      replace HCL := Aside0.mk (HCL.out.below hb)
      clear hb
      go_wp2_with fail
      have HG := Aside0.mk (Beside.new HO.out.at_ (.cells #[.int .i64 m1, .int .i64 p, .int .i64 q1, .int .i64 0, .int .i64 r1, .int .u64 ch1] 48))
      replace HO := Aside0.mk (HO.out.below (below_alloc (Below.refl _ _) (.cells #[.int .i64 m1, .int .i64 p, .int .i64 q1, .int .i64 0, .int .i64 r1, .int .u64 ch1] 48)))
      replace HCL := Aside0.mk (HCL.out.below (below_alloc (Below.refl _ _) (.cells #[.int .i64 m1, .int .i64 p, .int .i64 q1, .int .i64 0, .int .i64 r1, .int .u64 ch1] 48)))
      obtain ⟨g, hg⟩ : ∃ g, g = w3.heap.size := ⟨_, rfl⟩
      rw [← hg] at HG ⊢
      generalize w3.alloc (.cells #[.int .i64 m1, .int .i64 p, .int .i64 q1, .int .i64 0, .int .i64 r1, .int .u64 ch1] 48) = w4 at HG HO HCL ⊢
      clear hg
      have hwn : IntKind.i64.wrap (ns.length : Int) = ns.length := by rw [IntKind.wrap_i64]; omega
      have hf3 : ∀ W, (Instr.field 48 (.agg #[.int .i64 m2, .int .i64 p, .int .i64 q2, .int .i64 (ns.length : Int), .int .i64 r2, .int .u64 ch2]) 3).run Tryz.prog W = .ok (.int .i64 (ns.length : Int)) W := fun W => by first | kernel_rfl | rfl
      have hf1 : ∀ W, (Instr.field 48 (.agg #[.int .i64 m2, .int .i64 p, .int .i64 q2, .int .i64 (ns.length : Int), .int .i64 r2, .int .u64 ch2]) 1).run Tryz.prog W = .ok (.int .i64 p) W := fun W => by first | kernel_rfl | rfl
      have hwn2 : wrap64 (ns.length : Int) = ns.length := by unfold wrap64; omega
      refine start_ (n := 27) (S := fun w' => w'.cell? (ad.add (k * 3)) = some (.int .i64 y0) ∧ w'.cell? ⟨(ad.add (k * 3)).block, (ad.add (k * 3)).off + 1, none⟩ = some (.string y1) ∧ w'.cell? ⟨(ad.add (k * 3)).block, (ad.add (k * 3)).off + 2, none⟩ = some (.int .i64 y2) ∧ w'.cell? ⟨g, 1, none⟩ = some (.int .i64 p) ∧ w'.cell? ⟨g, 3, none⟩ = some (.int .i64 0)) (ds := []) #[false, false, false, false, false, false, false, false, false, false, false, false, false, false, false, false, false, false, false, false, false, false, false, false, false, false, false] (by kernel_rfl) rfl rfl ⟨(HCD.out _ (HCL.out.below (Below.refl _ _).drew)).1, (HCD.out _ (HCL.out.below (Below.refl _ _).drew)).2.1, (HCD.out _ (HCL.out.below (Below.refl _ _).drew)).2.2, (blk_cell (HG.out.below (Below.refl _ _).drew).at_ 1).trans rfl, (blk_cell (HG.out.below (Below.refl _ _).drew).at_ 3).trans rfl⟩ (fun hHeld => ?_)
      replace HO := Aside0.mk (HO.out.below (Below.refl _ _).drew)
      replace HCL := Aside0.mk (HCL.out.below (Below.refl _ _).drew)
      replace HG := Aside0.mk (HG.out.below (Below.refl _ _).drew)
      generalize w4.drew = wy at HO HCL HG hHeld ⊢
      refine pure_ (i := 0) (N := some 87) (v := ?_) (a' := ?_) #[true, false, false, false, false, false, false, false, false, false, false, false, false, false, false, false, false, false, false, false, false, false, false, false, false, false, false] rfl rfl (by kernel_rfl) (fun _ _ _ h => h) (Or.inl ⟨by rfl, ?_⟩) ?_ ?_
      rotate_left
      · intro w'
        go_simp
        with_reducible rfl
      rotate_left
      · simp only [Act.put, List.setIfInBounds_toArray, List.set_cons_zero, List.set_cons_succ]
        rfl
      refine pure_ (i := 1) (N := some 88) (v := ?_) (a' := ?_) #[true, true, false, false, false, false, false, false, false, false, false, false, false, false, false, false, false, false, false, false, false, false, false, false, false, false, false] rfl rfl (by kernel_rfl) (fun _ _ _ h => h) (Or.inl ⟨by rfl, ?_⟩) ?_ ?_
      rotate_left
      · intro w'
        go_simp
        with_reducible rfl
      rotate_left
      · simp only [Act.put, List.setIfInBounds_toArray, List.set_cons_zero, List.set_cons_succ]
        rfl
      refine pure_ (i := 2) (N := some 89) (v := ?_) (a' := ?_) #[true, true, true, false, false, false, false, false, false, false, false, false, false, false, false, false, false, false, false, false, false, false, false, false, false, false, false] rfl rfl (by kernel_rfl) (fun _ _ _ h => h) (Or.inl ⟨by rfl, ?_⟩) ?_ ?_
      rotate_left
      · intro w'
        go_simp
        with_reducible rfl
      rotate_left
      · simp only [Act.put, List.setIfInBounds_toArray, List.set_cons_zero, List.set_cons_succ]
        rfl
      refine pure_ (i := 3) (N := some 90) (v := ?_) (a' := ?_) #[true, true, true, true, false, false, false, false, false, false, false, false, false, false, false, false, false, false, false, false, false, false, false, false, false, false, false] rfl rfl (by kernel_rfl) (fun _ _ _ h => h) (Or.inl ⟨by rfl, ?_⟩) ?_ ?_
      rotate_left
      · intro w'
        go_simp
        with_reducible rfl
      rotate_left
      · simp only [Act.put, List.setIfInBounds_toArray, List.set_cons_zero, List.set_cons_succ]
        rfl
      refine pure_ (i := 4) (N := some 91) (v := ?_) (a' := ?_) #[true, true, true, true, true, false, false, false, false, false, false, false, false, false, false, false, false, false, false, false, false, false, false, false, false, false, false] rfl rfl (by kernel_rfl) (fun _ _ _ h => h) (Or.inl ⟨by rfl, ?_⟩) ?_ ?_
      rotate_left
      · intro w'
        go_simp
        with_reducible rfl
      rotate_left
      · simp only [Act.put, List.setIfInBounds_toArray, List.set_cons_zero, List.set_cons_succ]
        rfl
      refine take_ (i := 5) (N := some 92) (v := ?_) (a' := ?_) #[true, true, true, true, true, true, false, false, false, false, false, false, false, false, false, false, false, false, false, false, false, false, false, false, false, false, false] rfl rfl (by kernel_rfl) (fun _ _ _ h => h) (Or.inl ⟨by rfl, ?_⟩) hHeld ?_ ?_
      rotate_left
      · rintro w' ⟨s0, s1, s2', s3', s4⟩
        go_simp
        with_reducible rfl
      rotate_left
      · simp only [Act.put, List.setIfInBounds_toArray, List.set_cons_zero, List.set_cons_succ]
        rfl
      refine one_ (i := 6) (N := some 93) #[true, true, true, true, true, true, true, false, false, false, false, false, false, false, false, false, false, false, false, false, false, false, false, false, false, false, false] rfl rfl (by kernel_rfl) (by decide) (fun K hK => ?_)
      refine call_ 16 #[.iface 26 (.pointer (some ⟨ks, 0, none⟩)), .agg #[.int .i64 y0, .string y1, .int .i64 y2]] (by rfl) rfl (by go_simp) ?_
      refine (HF.out _ HO.out.at_).mono ?_
      rintro e w5 ⟨rfl, hs, hf⟩
      refine ⟨.int .i64 0, rfl, ?_⟩
      replace HO := Aside0.mk (HO.out.fr hs hf)
      replace HCL := Aside0.mk (HCL.out.fr hf)
      replace HG := Aside0.mk (HG.out.fr hf)
      clear hs hf
      refine hK.out _ _ ⟨(HCD.out _ (HCL.out)).1, (HCD.out _ (HCL.out)).2.1, (HCD.out _ (HCL.out)).2.2, (blk_cell (HG.out).at_ 1).trans rfl, (blk_cell (HG.out).at_ 3).trans rfl⟩ (fun hHeld => ?_)
      clear hK K
      refine norm_ (a' := ?_) ?_ ?_
      rotate_left
      · show Act.put _ (some 93) _ = _
        simp only [Act.put, List.setIfInBounds_toArray, List.set_cons_zero, List.set_cons_succ]
        rfl
      refine pure_ (i := 7) (N := some 94) (v := ?_) (a' := ?_) #[true, true, true, true, true, true, true, true, false, false, false, false, false, false, false, false, false, false, false, false, false, false, false, false, false, false, false] rfl rfl (by kernel_rfl) (fun _ _ _ h => h) (Or.inl ⟨by rfl, ?_⟩) ?_ ?_
      rotate_left
      · intro w'
        go_simp
        with_reducible rfl
      rotate_left
      · simp only [Act.put, List.setIfInBounds_toArray, List.set_cons_zero, List.set_cons_succ]
        rfl
      refine pure_ (i := 8) (N := some 95) (v := ?_) (a' := ?_) #[true, true, true, true, true, true, true, true, true, false, false, false, false, false, false, false, false, false, false, false, false, false, false, false, false, false, false] rfl rfl (by kernel_rfl) (fun _ _ _ h => h) (Or.inl ⟨by rfl, ?_⟩) ?_ ?_
      rotate_left
      · intro w'
        go_simp
        with_reducible rfl
      rotate_left
      · simp only [Act.put, List.setIfInBounds_toArray, List.set_cons_zero, List.set_cons_succ]
        rfl
      refine pure_ (i := 9) (N := some 96) (v := ?_) (a' := ?_) #[true, true, true, true, true, true, true, true, true, true, false, false, false, false, false, false, false, false, false, false, false, false, false, false, false, false, false] rfl rfl (by kernel_rfl) (fun _ _ _ h => h) (Or.inl ⟨by rfl, ?_⟩) ?_ ?_
      rotate_left
      · intro w'
        go_simp
        with_reducible rfl
      rotate_left
      · simp only [Act.put, List.setIfInBounds_toArray, List.set_cons_zero, List.set_cons_succ]
        rfl
      refine pure_ (i := 12) (N := some 99) (v := ?_) (a' := ?_) #[true, true, true, true, true, true, true, true, true, true, false, false, true, false, false, false, false, false, false, false, false, false, false, false, false, false, false] rfl rfl (by kernel_rfl) (fun _ _ _ h => h) (Or.inl ⟨by rfl, ?_⟩) ?_ ?_
      rotate_left
      · intro w'
        go_simp
        with_reducible rfl
      rotate_left
      · simp only [Act.put, List.setIfInBounds_toArray, List.set_cons_zero, List.set_cons_succ]
        rfl
      refine take_ (i := 13) (N := some 100) (v := ?_) (a' := ?_) #[true, true, true, true, true, true, true, true, true, true, false, false, true, true, false, false, false, false, false, false, false, false, false, false, false, false, false] rfl rfl (by kernel_rfl) (fun _ _ _ h => h) (Or.inl ⟨by rfl, ?_⟩) hHeld ?_ ?_
      rotate_left
      · rintro w' ⟨s0, s1, s2', s3', s4⟩
        go_simp
        with_reducible rfl
      rotate_left
      · simp only [Act.put, List.setIfInBounds_toArray, List.set_cons_zero, List.set_cons_succ]
        rfl
      refine pure_ (i := 14) (N := some 101) (v := ?_) (a' := ?_) #[true, true, true, true, true, true, true, true, true, true, false, false, true, true, true, false, false, false, false, false, false, false, false, false, false, false, false] rfl rfl (by kernel_rfl) (fun _ _ _ h => h) (Or.inl ⟨by rfl, ?_⟩) ?_ ?_
      rotate_left
      · intro w'
        go_simp
        with_reducible rfl
      rotate_left
      · simp only [Act.put, List.setIfInBounds_toArray, List.set_cons_zero, List.set_cons_succ]
        rfl
      refine pure_ (i := 15) (N := some 102) (v := ?_) (a' := ?_) #[true, true, true, true, true, true, true, true, true, true, false, false, true, true, true, true, false, false, false, false, false, false, false, false, false, false, false] rfl rfl (by kernel_rfl) (fun _ _ _ h => h) (Or.inl ⟨by rfl, ?_⟩) ?_ ?_
      rotate_left
      · intro w'
        go_simp
        with_reducible rfl
      rotate_left
      · simp only [Act.put, List.setIfInBounds_toArray, List.set_cons_zero, List.set_cons_succ]
        rfl
      refine pure_ (i := 16) (N := some 103) (v := ?_) (a' := ?_) #[true, true, true, true, true, true, true, true, true, true, false, false, true, true, true, true, true, false, false, false, false, false, false, false, false, false, false] rfl rfl (by kernel_rfl) (fun _ _ _ h => h) (Or.inl ⟨by rfl, ?_⟩) ?_ ?_
      rotate_left
      · intro w'
        go_simp
        with_reducible rfl
      rotate_left
      · simp only [Act.put, List.setIfInBounds_toArray, List.set_cons_zero, List.set_cons_succ]
        rfl
      refine one_ (i := 10) (N := some 97) #[true, true, true, true, true, true, true, true, true, true, true, false, true, true, true, true, true, false, false, false, false, false, false, false, false, false, false] rfl rfl (by kernel_rfl) (by decide) (fun K hK => ?_)
      refine call_ 18 #[.pointer (some ⟨ks, 0, none⟩)] (by rfl) rfl (by go_simp) ?_
      refine (HH2.out _ HO.out.at_).mono ?_
      rintro e w6 ⟨rfl, hb⟩
      refine ⟨.agg #[.int .i64 m2, .int .i64 p, .int .i64 q2, .int .i64 (ns.length : Int), .int .i64 r2, .int .u64 ch2], rfl, ?_⟩
      replace HO := Aside0.mk (HO.out.below hb)
      replace HCL := Aside0.mk (HCL.out.below hb)
      replace HG := Aside0.mk (HG.out.below hb)
      clear hb
      refine hK.out _ _ ⟨(HCD.out _ (HCL.out)).1, (HCD.out _ (HCL.out)).2.1, (HCD.out _ (HCL.out)).2.2, (blk_cell (HG.out).at_ 1).trans rfl, (blk_cell (HG.out).at_ 3).trans rfl⟩ (fun hHeld => ?_)
      clear hK K
      refine norm_ (a' := ?_) ?_ ?_
      rotate_left
      · show Act.put _ (some 97) _ = _
        simp only [Act.put, List.setIfInBounds_toArray, List.set_cons_zero, List.set_cons_succ]
        rfl
      refine pure_ (i := 11) (N := some 98) (v := ?_) (a' := ?_) #[true, true, true, true, true, true, true, true, true, true, true, true, true, true, true, true, true, false, false, false, false, false, false, false, false, false, false] rfl rfl (by kernel_rfl) (fun _ _ _ h => h) (Or.inl ⟨by rfl, ?_⟩) ?_ ?_
      rotate_left
      · intro w'
        go_simp
        with_reducible rfl
      rotate_left
      · simp only [Act.put, List.setIfInBounds_toArray, List.set_cons_zero, List.set_cons_succ]
        rfl
      refine pure_ (i := 17) (N := some 104) (v := ?_) (a' := ?_) #[true, true, true, true, true, true, true, true, true, true, true, true, true, true, true, true, true, true, false, false, false, false, false, false, false, false, false] rfl rfl (by kernel_rfl) (fun _ _ _ h => h) (Or.inl ⟨by rfl, ?_⟩) ?_ ?_
      rotate_left
      · intro w'
        go_simp
        with_reducible rfl
      rotate_left
      · simp only [Act.put, List.setIfInBounds_toArray, List.set_cons_zero, List.set_cons_succ]
        rfl
      refine pure_ (i := 18) (N := some 105) (v := ?_) (a' := ?_) #[true, true, true, true, true, true, true, true, true, true, true, true, true, true, true, true, true, true, true, false, false, false, false, false, false, false, false] rfl rfl (by kernel_rfl) (fun _ _ _ h => h) (Or.inl ⟨by rfl, ?_⟩) ?_ ?_
      rotate_left
      · intro w'
        go_simp
        with_reducible rfl
      rotate_left
      · simp only [Act.put, List.setIfInBounds_toArray, List.set_cons_zero, List.set_cons_succ]
        rfl
      refine pure_ (i := 19) (N := some 106) (v := ?_) (a' := ?_) #[true, true, true, true, true, true, true, true, true, true, true, true, true, true, true, true, true, true, true, true, false, false, false, false, false, false, false] rfl rfl (by kernel_rfl) (fun _ _ _ h => h) (Or.inl ⟨by rfl, ?_⟩) ?_ ?_
      rotate_left
      · intro w'
        go_simp
        with_reducible rfl
      rotate_left
      · simp only [Act.put, List.setIfInBounds_toArray, List.set_cons_zero, List.set_cons_succ]
        rfl
      refine pure_ (i := 20) (N := some 107) (v := ?_) (a' := ?_) #[true, true, true, true, true, true, true, true, true, true, true, true, true, true, true, true, true, true, true, true, true, false, false, false, false, false, false] rfl rfl (by kernel_rfl) (fun _ _ _ h => h) (Or.inl ⟨by rfl, ?_⟩) ?_ ?_
      rotate_left
      · intro w'
        go_simp
        with_reducible rfl
      rotate_left
      · simp only [Act.put, List.setIfInBounds_toArray, List.set_cons_zero, List.set_cons_succ]
        rfl
      refine pure_ (i := 23) (N := some 110) (v := ?_) (a' := ?_) #[true, true, true, true, true, true, true, true, true, true, true, true, true, true, true, true, true, true, true, true, true, false, false, true, false, false, false] rfl rfl (by kernel_rfl) (fun _ _ _ h => h) (Or.inl ⟨by rfl, ?_⟩) ?_ ?_
      rotate_left
      · intro w'
        go_simp
        with_reducible rfl
      rotate_left
      · simp only [Act.put, List.setIfInBounds_toArray, List.set_cons_zero, List.set_cons_succ]
        rfl
      refine take_ (i := 24) (N := some 111) (v := ?_) (a' := ?_) #[true, true, true, true, true, true, true, true, true, true, true, true, true, true, true, true, true, true, true, true, true, false, false, true, true, false, false] rfl rfl (by kernel_rfl) (fun _ _ _ h => h) (Or.inl ⟨by rfl, ?_⟩) hHeld ?_ ?_
      rotate_left
      · rintro w' ⟨s0, s1, s2', s3', s4⟩
        go_simp
        with_reducible rfl
      rotate_left
      · simp only [Act.put, List.setIfInBounds_toArray, List.set_cons_zero, List.set_cons_succ]
        rfl
      refine one_ (i := 21) (N := some 108) #[true, true, true, true, true, true, true, true, true, true, true, true, true, true, true, true, true, true, true, true, true, true, false, true, true, false, false] rfl rfl (by kernel_rfl) (by decide) (fun K hK => ?_)
      refine call_ 18 #[.pointer (some ⟨ks, 0, none⟩)] (by rfl) rfl (by go_simp) ?_
      refine (HH2.out _ HO.out.at_).mono ?_
      rintro e w7 ⟨rfl, hb⟩
      refine ⟨.agg #[.int .i64 m2, .int .i64 p, .int .i64 q2, .int .i64 (ns.length : Int), .int .i64 r2, .int .u64 ch2], rfl, ?_⟩
      replace HO := Aside0.mk (HO.out.below hb)
      replace HCL := Aside0.mk (HCL.out.below hb)
      replace HG := Aside0.mk (HG.out.below hb)
      clear hb
      refine hK.out _ _ ⟨(HCD.out _ (HCL.out)).1, (HCD.out _ (HCL.out)).2.1, (HCD.out _ (HCL.out)).2.2, (blk_cell (HG.out).at_ 1).trans rfl, (blk_cell (HG.out).at_ 3).trans rfl⟩ (fun hHeld => ?_)
      clear hK K
      refine norm_ (a' := ?_) ?_ ?_
      rotate_left
      · show Act.put _ (some 108) _ = _
        simp only [Act.put, List.setIfInBounds_toArray, List.set_cons_zero, List.set_cons_succ]
        rfl
      refine pure_ (i := 22) (N := some 109) (v := ?_) (a' := ?_) #[true, true, true, true, true, true, true, true, true, true, true, true, true, true, true, true, true, true, true, true, true, true, true, true, true, false, false] rfl rfl (by kernel_rfl) (fun _ _ _ h => h) (Or.inl ⟨by rfl, ?_⟩) ?_ ?_
      rotate_left
      · intro w'
        go_simp
        with_reducible rfl
      rotate_left
      · simp only [Act.put, List.setIfInBounds_toArray, List.set_cons_zero, List.set_cons_succ]
        rfl
      refine pure_ (i := 25) (N := some 112) (v := ?_) (a' := ?_) #[true, true, true, true, true, true, true, true, true, true, true, true, true, true, true, true, true, true, true, true, true, true, true, true, true, true, false] rfl rfl (by kernel_rfl) (fun _ _ _ h => h) (Or.inl ⟨by rfl, ?_⟩) ?_ ?_
      rotate_left
      · intro w'
        go_simp
        with_reducible rfl
      rotate_left
      · simp only [Act.put, List.setIfInBounds_toArray, List.set_cons_zero, List.set_cons_succ]
        rfl
      refine pure_ (i := 26) (N := some 113) (v := ?_) (a' := ?_) #[true, true, true, true, true, true, true, true, true, true, true, true, true, true, true, true, true, true, true, true, true, true, true, true, true, true, true] rfl rfl (by kernel_rfl) (fun _ _ _ h => h) (Or.inl ⟨by rfl, ?_⟩) ?_ ?_
      rotate_left
      · intro w'
        go_simp
        with_reducible rfl
      rotate_left
      · simp only [Act.put, List.setIfInBounds_toArray, List.set_cons_zero, List.set_cons_succ]
        rfl
      refine done_ (by kernel_rfl) ?_
      clear hHeld hf1 hf3 hwn hwn2 HF HH1 HH2 HCD hki hwu
      go_wp2_with fail
      go_loopw [14] (fun i wr => ∃ j : Nat, j ≤ vs.length ∧ i = .int .i64 j ∧ Aside0 (Own ks mb wa.heap.size wa wr s2) ∧ Aside0 (CelsAt ks mb wa.heap.size wr (.slice (some ad) vs.length c) cs) ∧ Aside0 (Beside ks mb wr g (.cells #[.int .i64 m1, .int .i64 p, .int .i64 q1, .int .i64 0, .int .i64 r1, .int .u64 ch1] 48))) (fun i _ => vs.length - (intOf i).toNat)
      case atStart => exact ⟨0, Nat.zero_le _, rfl, HO, HCL, HG⟩
      case round =>
        clear HO HCL HG
        obtain ⟨j, hj, rfl, HO, HCL, HG⟩ := hrel
        by_cases hlt : j < vs.length
        · have t1 : decide ((j : Int) < (vs.length : Int)) = true := decide_eq_true (by omega)
          by_cases hjk : j = k
          · have te : ((j : Int) == (k : Int)) = true := by simp [hjk]
            go_wp2
            go_roundw
            case rel => exact ⟨j + 1, by omega, by go_num, HO, HCL, HG⟩
            case measure => simp only [intOf]; omega
          · have te : ((j : Int) == (k : Int)) = false := beq_false_of (by omega)
            obtain ⟨ad', e, b0, b1, b2⟩ := cel_at (Kd.R_reads' HCL.out).2.2 (show j < cs.length by rw [HCLN.out]; exact hlt) cel0
            injection e with e
            subst e
            have hw := HOTH.out j (by rw [hvl]; exact hlt) hjk
            rw [vl_at hlt] at hw
            obtain ⟨⟨x0, x1, x2⟩, hx⟩ : ∃ x, x = cs.getD j cel0 := ⟨_, rfl⟩
            rw [← hx] at b0 b1 b2 hw
            dsimp only at b0 b1 b2
            have HV := Aside0.mk (fun W hW => shValue_calls ks mb s2 x0 x1 x2 W hW HO2.out)
            rw [hw, bs_of] at HV
            have HRD := Aside0.mk (fun W (hW : Below w.heap.size w W) => Kd.at_string (Kd.C_below HVS.out hW) (j : Int) (by omega) (by omega))
            obtain ⟨x, hxd⟩ : ∃ x, x = rdOf ByteArray.empty vs (j : Int) := ⟨_, rfl⟩
            rw [← hxd] at HV HRD
            clear hxd hw hx hjk
            go_wp2_with fail
            clear b0 b1 b2
            refine (HV.out _ HO.out.at_).mono ?_
            rintro e w6 ⟨rfl, hs, hf⟩
            replace HO := Aside0.mk (HO.out.fr hs hf)
            replace HCL := Aside0.mk (HCL.out.fr hf)
            replace HG := Aside0.mk (HG.out.fr hf)
            clear hs hf HV
            obtain ⟨ad', hA, hx⟩ := HRD.out w6 (HBA.out.trans (HO.out.base.mono HBA.out.size))
            subst hA
            rw [Int.toNat_natCast] at hx
            go_wp2
            go_roundw
            case rel => exact ⟨j + 1, by omega, by go_num, HO, HCL, HG⟩
            case measure => simp only [intOf]; omega
        · obtain rfl : j = vs.length := by omega
          have t1 : decide ((vs.length : Int) < (vs.length : Int)) = false := decide_eq_false (by omega)
          have hszk := HSZ.out k hk
          have HRD := Aside0.mk (fun W (hW : Below w.heap.size w W) => Kd.at_string (Kd.C_below HVS.out hW) (k : Int) (by omega) (by omega))
          have hc3 := HC3.out
          have hw3 := HW3.out
          rw [vl_at hk] at hc3 hw3
          obtain ⟨x, hxd⟩ : ∃ x, x = rdOf ByteArray.empty vs (k : Int) := ⟨_, rfl⟩
          rw [← hxd] at hc3 hw3 HRD hszk
          have hc := fun W hW => shCell_calls ks mb s2 x.data.toList W hW HO2.out (by rw [data_length]; exact hszk)
          rw [hc3, bs_of] at hc
          have HC := Aside0.mk hc
          have HV := Aside0.mk (fun W hW => shValue_calls ks mb s3 z0 z1 z2 W hW HO3.out)
          rw [hw3, bs_of] at HV
          obtain ⟨m3, q3, r3, ch3, hh3⟩ := head_of ks mb (s := s3) HP3.out.1 HP3.out.2
          have HH3 := Aside0.mk hh3
          obtain ⟨av, hA, hx⟩ := HRD.out wr (HBA.out.trans (HO.out.base.mono HBA.out.size))
          subst hA
          rw [Int.toNat_natCast] at hx
          replace HRD := Aside0.mk (fun W (hW : Below w.heap.size w W) => show W.cell? (av.add k) = some (.string x) by
            obtain ⟨ad', e, h⟩ := HRD.out W hW
            injection e with e
            subst e
            rw [Int.toNat_natCast] at h
            exact h)
          clear hxd hc hc3 hw3 hh3 HC3 HW3 HOTH hlt hj
          go_wp2_with fail
          clear hx
          refine (HC.out _ HO.out.at_).mono ?_
          rintro e w6 ⟨rfl, hs, hf⟩
          replace HO := Aside0.mk (HO.out.fr hs hf)
          replace HG := Aside0.mk (HG.out.fr hf)
          clear hs hf HC HCL
          have HB := Aside0.mk (Beside.new HO.out.at_ (.cells #[.int .i64 z0, .string z1, .int .i64 z2] 24))
          replace HO := Aside0.mk (HO.out.below (below_alloc (Below.refl _ _) (.cells #[.int .i64 z0, .string z1, .int .i64 z2] 24)))
          replace HG := Aside0.mk (HG.out.below (below_alloc (Below.refl _ _) (.cells #[.int .i64 z0, .string z1, .int .i64 z2] 24)))
          go_wp2_with fail
          obtain ⟨gb, hgb⟩ : ∃ gb, gb = w6.heap.size := ⟨_, rfl⟩
          rw [← hgb] at HB ⊢
          generalize w6.alloc (.cells #[.int .i64 z0, .string z1, .int .i64 z2] 24) = w7 at HB HO HG ⊢
          clear hgb
          have hf3 : ∀ W, (Instr.field 48 (.agg #[.int .i64 m3, .int .i64 p, .int .i64 q3, .int .i64 0, .int .i64 r3, .int .u64 ch3]) 3).run Tryz.prog W = .ok (.int .i64 0) W := fun W => by first | kernel_rfl | rfl
          have hf1 : ∀ W, (Instr.field 48 (.agg #[.int .i64 m3, .int .i64 p, .int .i64 q3, .int .i64 0, .int .i64 r3, .int .u64 ch3]) 1).run Tryz.prog W = .ok (.int .i64 p) W := fun W => by first | kernel_rfl | rfl
          refine start_ (n := 18) (S := fun w' => w'.cell? ⟨g, 1, none⟩ = some (.int .i64 p) ∧ w'.cell? ⟨g, 3, none⟩ = some (.int .i64 0)) (ds := []) #[false, false, false, false, false, false, false, false, false, false, false, false, false, false, false, false, false, false] (by kernel_rfl) rfl rfl ⟨(blk_cell (HG.out.below (Below.refl _ _).drew).at_ 1).trans rfl, (blk_cell (HG.out.below (Below.refl _ _).drew).at_ 3).trans rfl⟩ (fun hHeld => ?_)
          replace HO := Aside0.mk (HO.out.below (Below.refl _ _).drew)
          replace HB := Aside0.mk (HB.out.below (Below.refl _ _).drew)
          replace HG := Aside0.mk (HG.out.below (Below.refl _ _).drew)
          generalize w7.drew = wz at HO HB HG hHeld ⊢
          refine pure_ (i := 0) (N := some 153) (v := ?_) (a' := ?_) #[true, false, false, false, false, false, false, false, false, false, false, false, false, false, false, false, false, false] rfl rfl (by kernel_rfl) (fun _ _ _ h => h) (Or.inl ⟨by rfl, ?_⟩) ?_ ?_
          rotate_left
          · intro w'
            go_simp
            with_reducible rfl
          rotate_left
          · simp only [Act.put, List.setIfInBounds_toArray, List.set_cons_zero, List.set_cons_succ]
            rfl
          refine pure_ (i := 1) (N := some 154) (v := ?_) (a' := ?_) #[true, true, false, false, false, false, false, false, false, false, false, false, false, false, false, false, false, false] rfl rfl (by kernel_rfl) (fun _ _ _ h => h) (Or.inl ⟨by rfl, ?_⟩) ?_ ?_
          rotate_left
          · intro w'
            go_simp
            with_reducible rfl
          rotate_left
          · simp only [Act.put, List.setIfInBounds_toArray, List.set_cons_zero, List.set_cons_succ]
            rfl
          refine pure_ (i := 2) (N := some 155) (v := ?_) (a' := ?_) #[true, true, true, false, false, false, false, false, false, false, false, false, false, false, false, false, false, false] rfl rfl (by kernel_rfl) (fun _ _ _ h => h) (Or.inl ⟨by rfl, ?_⟩) ?_ ?_
          rotate_left
          · intro w'
            go_simp
            with_reducible rfl
          rotate_left
          · simp only [Act.put, List.setIfInBounds_toArray, List.set_cons_zero, List.set_cons_succ]
            rfl
          refine pure_ (i := 3) (N := some 156) (v := ?_) (a' := ?_) #[true, true, true, true, false, false, false, false, false, false, false, false, false, false, false, false, false, false] rfl rfl (by kernel_rfl) (fun _ _ _ h => h) (Or.inl ⟨by rfl, ?_⟩) ?_ ?_
          rotate_left
          · intro w'
            go_simp
            with_reducible rfl
          rotate_left
          · simp only [Act.put, List.setIfInBounds_toArray, List.set_cons_zero, List.set_cons_succ]
            rfl
          refine pure_ (i := 6) (N := some 159) (v := ?_) (a' := ?_) #[true, true, true, true, false, false, true, false, false, false, false, false, false, false, false, false, false, false] rfl rfl (by kernel_rfl) (fun _ _ _ h => h) (Or.inl ⟨by rfl, ?_⟩) ?_ ?_
          rotate_left
          · intro w'
            go_simp
            with_reducible rfl
          rotate_left
          · simp only [Act.put, List.setIfInBounds_toArray, List.set_cons_zero, List.set_cons_succ]
            rfl
          refine take_ (i := 7) (N := some 160) (v := ?_) (a' := ?_) #[true, true, true, true, false, false, true, true, false, false, false, false, false, false, false, false, false, false] rfl rfl (by kernel_rfl) (fun _ _ _ h => h) (Or.inl ⟨by rfl, ?_⟩) hHeld ?_ ?_
          rotate_left
          · rintro w' ⟨s0, s1⟩
            go_simp
            with_reducible rfl
          rotate_left
          · simp only [Act.put, List.setIfInBounds_toArray, List.set_cons_zero, List.set_cons_succ]
            rfl
          refine one_ (i := 4) (N := some 157) #[true, true, true, true, true, false, true, true, false, false, false, false, false, false, false, false, false, false] rfl rfl (by kernel_rfl) (by decide) (fun K hK => ?_)
          refine call_ 18 #[.pointer (some ⟨ks, 0, none⟩)] (by rfl) rfl (by go_simp) ?_
          refine (HH3.out _ HO.out.at_).mono ?_
          rintro e w8 ⟨rfl, hb⟩
          refine ⟨.agg #[.int .i64 m3, .int .i64 p, .int .i64 q3, .int .i64 0, .int .i64 r3, .int .u64 ch3], rfl, ?_⟩
          replace HO := Aside0.mk (HO.out.below hb)
          replace HG := Aside0.mk (HG.out.below hb)
          replace HB := Aside0.mk (HB.out.below hb)
          clear hb
          refine hK.out _ _ ⟨(blk_cell (HG.out).at_ 1).trans rfl, (blk_cell (HG.out).at_ 3).trans rfl⟩ (fun hHeld => ?_)
          clear hK K
          refine norm_ (a' := ?_) ?_ ?_
          rotate_left
          · show Act.put _ (some 157) _ = _
            simp only [Act.put, List.setIfInBounds_toArray, List.set_cons_zero, List.set_cons_succ]
            rfl
          refine pure_ (i := 5) (N := some 158) (v := ?_) (a' := ?_) #[true, true, true, true, true, true, true, true, false, false, false, false, false, false, false, false, false, false] rfl rfl (by kernel_rfl) (fun _ _ _ h => h) (Or.inl ⟨by rfl, ?_⟩) ?_ ?_
          rotate_left
          · intro w'
            go_simp
            with_reducible rfl
          rotate_left
          · simp only [Act.put, List.setIfInBounds_toArray, List.set_cons_zero, List.set_cons_succ]
            rfl
          refine pure_ (i := 8) (N := some 161) (v := ?_) (a' := ?_) #[true, true, true, true, true, true, true, true, true, false, false, false, false, false, false, false, false, false] rfl rfl (by kernel_rfl) (fun _ _ _ h => h) (Or.inl ⟨by rfl, ?_⟩) ?_ ?_
          rotate_left
          · intro w'
            go_simp
            with_reducible rfl
          rotate_left
          · simp only [Act.put, List.setIfInBounds_toArray, List.set_cons_zero, List.set_cons_succ]
            rfl
          refine pure_ (i := 9) (N := some 162) (v := ?_) (a' := ?_) #[true, true, true, true, true, true, true, true, true, true, false, false, false, false, false, false, false, false] rfl rfl (by kernel_rfl) (fun _ _ _ h => h) (Or.inl ⟨by rfl, ?_⟩) ?_ ?_
          rotate_left
          · intro w'
            go_simp
            with_reducible rfl
          rotate_left
          · simp only [Act.put, List.setIfInBounds_toArray, List.set_cons_zero, List.set_cons_succ]
            rfl
          refine pure_ (i := 10) (N := some 163) (v := ?_) (a' := ?_) #[true, true, true, true, true, true, true, true, true, true, true, false, false, false, false, false, false, false] rfl rfl (by kernel_rfl) (fun _ _ _ h => h) (Or.inl ⟨by rfl, ?_⟩) ?_ ?_
          rotate_left
          · intro w'
            go_simp
            with_reducible rfl
          rotate_left
          · simp only [Act.put, List.setIfInBounds_toArray, List.set_cons_zero, List.set_cons_succ]
            rfl
          refine pure_ (i := 11) (N := some 164) (v := ?_) (a' := ?_) #[true, true, true, true, true, true, true, true, true, true, true, true, false, false, false, false, false, false] rfl rfl (by kernel_rfl) (fun _ _ _ h => h) (Or.inl ⟨by rfl, ?_⟩) ?_ ?_
          rotate_left
          · intro w'
            go_simp
            with_reducible rfl
          rotate_left
          · simp only [Act.put, List.setIfInBounds_toArray, List.set_cons_zero, List.set_cons_succ]
            rfl
          refine pure_ (i := 14) (N := some 167) (v := ?_) (a' := ?_) #[true, true, true, true, true, true, true, true, true, true, true, true, false, false, true, false, false, false] rfl rfl (by kernel_rfl) (fun _ _ _ h => h) (Or.inl ⟨by rfl, ?_⟩) ?_ ?_
          rotate_left
          · intro w'
            go_simp
            with_reducible rfl
          rotate_left
          · simp only [Act.put, List.setIfInBounds_toArray, List.set_cons_zero, List.set_cons_succ]
            rfl
          refine take_ (i := 15) (N := some 168) (v := ?_) (a' := ?_) #[true, true, true, true, true, true, true, true, true, true, true, true, false, false, true, true, false, false] rfl rfl (by kernel_rfl) (fun _ _ _ h => h) (Or.inl ⟨by rfl, ?_⟩) hHeld ?_ ?_
          rotate_left
          · rintro w' ⟨s0, s1⟩
            go_simp
            with_reducible rfl
          rotate_left
          · simp only [Act.put, List.setIfInBounds_toArray, List.set_cons_zero, List.set_cons_succ]
            rfl
          refine one_ (i := 12) (N := some 165) #[true, true, true, true, true, true, true, true, true, true, true, true, true, false, true, true, false, false] rfl rfl (by kernel_rfl) (by decide) (fun K hK => ?_)
          refine call_ 18 #[.pointer (some ⟨ks, 0, none⟩)] (by rfl) rfl (by go_simp) ?_
          refine (HH3.out _ HO.out.at_).mono ?_
          rintro e w9 ⟨rfl, hb⟩
          refine ⟨.agg #[.int .i64 m3, .int .i64 p, .int .i64 q3, .int .i64 0, .int .i64 r3, .int .u64 ch3], rfl, ?_⟩
          replace HO := Aside0.mk (HO.out.below hb)
          replace HG := Aside0.mk (HG.out.below hb)
          replace HB := Aside0.mk (HB.out.below hb)
          clear hb
          refine hK.out _ _ ⟨(blk_cell (HG.out).at_ 1).trans rfl, (blk_cell (HG.out).at_ 3).trans rfl⟩ (fun hHeld => ?_)
          clear hK K
          refine norm_ (a' := ?_) ?_ ?_
          rotate_left
          · show Act.put _ (some 165) _ = _
            simp only [Act.put, List.setIfInBounds_toArray, List.set_cons_zero, List.set_cons_succ]
            rfl
          refine pure_ (i := 13) (N := some 166) (v := ?_) (a' := ?_) #[true, true, true, true, true, true, true, true, true, true, true, true, true, true, true, true, false, false] rfl rfl (by kernel_rfl) (fun _ _ _ h => h) (Or.inl ⟨by rfl, ?_⟩) ?_ ?_
          rotate_left
          · intro w'
            go_simp
            with_reducible rfl
          rotate_left
          · simp only [Act.put, List.setIfInBounds_toArray, List.set_cons_zero, List.set_cons_succ]
            rfl
          refine pure_ (i := 16) (N := some 169) (v := ?_) (a' := ?_) #[true, true, true, true, true, true, true, true, true, true, true, true, true, true, true, true, true, false] rfl rfl (by kernel_rfl) (fun _ _ _ h => h) (Or.inl ⟨by rfl, ?_⟩) ?_ ?_
          rotate_left
          · intro w'
            go_simp
            with_reducible rfl
          rotate_left
          · simp only [Act.put, List.setIfInBounds_toArray, List.set_cons_zero, List.set_cons_succ]
            rfl
          refine pure_ (i := 17) (N := some 170) (v := ?_) (a' := ?_) #[true, true, true, true, true, true, true, true, true, true, true, true, true, true, true, true, true, true] rfl rfl (by kernel_rfl) (fun _ _ _ h => h) (Or.inl ⟨by rfl, ?_⟩) ?_ ?_
          rotate_left
          · intro w'
            go_simp
            with_reducible rfl
          rotate_left
          · simp only [Act.put, List.setIfInBounds_toArray, List.set_cons_zero, List.set_cons_succ]
            rfl
          refine done_ (by kernel_rfl) ?_
          clear hHeld hf1 hf3 HH3
          have b0 : w9.cell? ⟨gb, 0, none⟩ = some (.int .i64 z0) := (blk_cell HB.out.at_ 0).trans rfl
          have b1 : w9.cell? ⟨gb, 1, none⟩ = some (.string z1) := (blk_cell HB.out.at_ 1).trans rfl
          have b2 : w9.cell? ⟨gb, 2, none⟩ = some (.int .i64 z2) := (blk_cell HB.out.at_ 2).trans rfl
          go_wp2_with fail
          clear b0 b1 b2
          refine (HV.out _ HO.out.at_).mono ?_
          rintro e w10 ⟨rfl, hs, hf⟩
          replace HO := Aside0.mk (HO.out.fr hs hf)
          have hx := HRD.out w10 (HBA.out.trans (HO.out.base.mono HBA.out.size))
          clear hs hf HV
          go_wp2
          go_ret
          exact ⟨rfl, HBA.out.trans (HO.out.base.mono HBA.out.size)⟩
end Go.Proofs.YtonbipaajhokfaaGreatDoor
end
