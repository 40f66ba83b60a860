/-
  Walk: a book's Put.
-/
import Derived.Test.YtonbipaajhokfaaB1
set_option linter.unusedVariables false
set_option linter.unusedSimpArgs false
namespace Go.Proofs.Ytonbipaajhokfaa
open Go.RowKit Go.Proofs.YtonbipaajhokfaaW.PrintWords Go.Proofs.YtonbipaajhokfaaW.PrintLast Go.Proofs.YtonbipaajhokfaaW.PrintMore

theorem R_ne_blk {α : Type} {d : Kd α} {e base : Nat} {ok : Nat → Prop} {w : World} {v : Value} {xs : List α} (h : d.R e w base ok v xs) {g : Nat} {t : TypeId} {cs : Array Value} (hb : w.heap[g]? = some (.cells cs t (0, 0))) (ht : t ≠ e) : some g ≠ v.ownBlock := by
  intro he
  obtain ⟨inner, ho⟩ := Kd.R_own h
  obtain ⟨cells, hc⟩ := own_typed ho g he.symm
  rw [hb] at hc
  injection hc with hc
  injection hc with _ hc
  exact ht hc
theorem info9 : (Try.prog.info? 9).map (fun i => (i.zero, i.size, i.bytes)) = some (some (.string ⟨#[]⟩), 1, 16) := by kernel_rfl
theorem no39 : ∀ q : Nat, q ∈ 9 :: Kd.string.E → q ≠ 3 := fun q hq => by simp [Kd.string, Kd.scalar] at hq; omega
theorem no93 : ∀ q : Nat, q ∈ 3 :: (Kd.int .i64).E → q ≠ 9 := fun q hq => by simp [Kd.int, Kd.scalar] at hq; omega
theorem no943 : ∀ q : Nat, q ∈ 9 :: Kd.string.E → q ≠ 43 := fun q hq => by simp [Kd.string, Kd.scalar] at hq; omega
theorem no343 : ∀ q : Nat, q ∈ 3 :: (Kd.int .i64).E → q ≠ 43 := fun q hq => by simp [Kd.int, Kd.scalar] at hq; omega

theorem below0 {w w1 : World} {row : Option Nat} (h : w.grownBy w1 row) {p : Addr} {u : Value} : Below 0 w (w1.setCell p u) :=
  ⟨h.os, h.tape, h.output, by simpa using h.size, fun k hk => absurd hk (Nat.not_lt_zero k)⟩
/-- F and what is new. -/
def Fnew (F : Nat → Prop) (w w' : World) : Nat → Prop := fun k => F k ∨ (w.heap.size ≤ k ∧ k < w'.heap.size)

set_option maxHeartbeats 2000000 in
set_option maxRecDepth 100000 in
theorem bookPut_new (kb : Nat) (F : Nat → Prop) (N : List Int) (D : List ByteArray) (n : Int) (d : ByteArray) (w : World) (h : BookAt w F kb N D) (hN : N.length < 1048576) (hp : placeOf N n < 0) :
    Calls Try.prog 19 #[.pointer (some ⟨kb, 0, none⟩), .int .i64 n, .string d] w fun e w' => e = .returned (.tuple #[]) ∧ BookAt w' (Fnew F w w') kb (N ++ [n]) (D ++ [d]) ∧ Fr F w w' := by
  have H := Aside0.mk h
  obtain ⟨h1, h2, h3, vN, vD, h4, h5, h6⟩ := h
  obtain ⟨A, c, rfl⟩ := Kd.R_slice h5
  obtain ⟨A2, c2, rfl⟩ := Kd.R_slice h6
  have hc0 := (blk_cell h4 0).trans rfl
  have hc1 := (blk_cell h4 1).trans rfl
  have HP := Aside0.mk hp
  have hr := (firstAt_range (eqB n) N).1
  have hpe : placeOf N n = -1 := by unfold placeOf at hp ⊢; omega
  have HPE := Aside0.mk hpe
  have H1 := Aside0.mk h1
  have H2 := Aside0.mk h2
  have H3 := Aside0.mk h3
  have H4 := Aside0.mk h4
  have H5 := Aside0.mk (Kd.R_mono (ok' := fun k => F k ∨ w.heap.size ≤ k) h5 (fun k hk => Or.inl hk))
  have H6 := Aside0.mk (Kd.R_mono (ok' := fun k => F k ∨ w.heap.size ≤ k) h6 (fun k hk => Or.inl hk))
  have HVN := Aside0.mk h5.1
  have HVD := Aside0.mk h6.1
  clear h1 h2 h3 h4 h5 h6 hp hr hpe
  go_enter Try.func19, Try.ntmps19
  go_wp2_with (first
    | (go_at_call 43; refine (place_calls _ _ _ _ _ _ H.out).mono ?_; rintro e w' ⟨rfl, rfl⟩; rw [HPE.out])
    | (at_builtin; refine Kd.R_append (Kd.int .i64) (w0 := w) 0 rfl (.tmp 16) (.tmp 18) 22 3 (.int .i64 0) 8 rfl Try.underlying22 info3 rfl (by decide) (by decide) (.slice A N.length c) _ n [.int .i64 n] (fun k => F k ∨ w.heap.size ≤ k) (fun k => some k ≠ (Value.slice A N.length c).ownBlock ∧ (F k ∨ w.heap.size ≤ k)) rfl rfl rfl (fun _ h => ⟨h.2, h.1⟩) (fun _ hk => Or.inr hk) H5.out (Below.refl 0 w) (Nat.zero_le _) (by omega) ?_; intro v1 w1 hR1 hB1 hG1 hat1; obtain ⟨A1, cc1, hv1⟩ := Kd.R_slice hR1; subst hv1; simp only [List.length_append, List.length_singleton] at hR1 ⊢; have HG1 := Aside0.mk hG1; have HR1 := Aside0.mk hR1; have HK1 := Aside0.mk (blk_grown H4.out hG1 (R_ne_blk H5.out H4.out (by decide))); have HD1 := Aside0.mk (Kd.R_over H6.out H5.out no39 hG1); clear hR1 hB1 hG1 hat1; have hk0 := (blk_cell HK1.out 0).trans rfl; have hk1 := (blk_cell HK1.out 1).trans rfl; have hf0 := blk_frozen HK1.out 0; have hf1 := blk_frozen HK1.out 1)
    | (at_builtin; refine Kd.R_append Kd.string (w0 := w) 0 rfl (.tmp 26) (.tmp 28) 41 9 (.string ⟨#[]⟩) 16 rfl Try.underlying41 info9 rfl (by decide) (by decide) (.slice A2 D.length c2) _ d [.string d] (fun k => F k ∨ w.heap.size ≤ k) (fun k => some k ≠ (Value.slice A2 D.length c2).ownBlock ∧ (F k ∨ w.heap.size ≤ k)) rfl (by show Value.slice (some ⟨w1.heap.size, 0, none⟩) 1 1 = _; simp) rfl (fun _ h => ⟨h.2, h.1⟩) (fun k hk => Or.inr (by have := HG1.out.size; simp at hk; omega)) (Kd.R_set HD1.out HK1.out no943 0 (.slice A1 (N.length + 1) cc1)) (below0 HG1.out) (Nat.zero_le _) (by have := H3.out; omega) ?_; intro v2 w2 hR2 hB2 hG2 hat2; obtain ⟨A3, cc3, hv2⟩ := Kd.R_slice hR2; subst hv2; simp only [List.length_append, List.length_singleton] at hR2 ⊢; have HG2 := Aside0.mk hG2; have HR2 := Aside0.mk hR2; have HS1 := Aside0.mk (Kd.R_set HR1.out HK1.out no343 0 (.slice A1 (N.length + 1) cc1)); have HT1 := Aside0.mk (Kd.R_set HD1.out HK1.out no943 0 (.slice A1 (N.length + 1) cc1)); have HK1' := Aside0.mk (blk_set HK1.out 0 (.slice A1 (N.length + 1) cc1)); have HK2 := Aside0.mk (blk_grown HK1'.out hG2 (R_ne_blk HT1.out HK1'.out (by decide))); have HN2 := Aside0.mk (Kd.R_over HS1.out HT1.out no93 hG2); clear hR2 hB2 hG2 hat2; have hk0' := (blk_cell HK2.out 0).trans rfl; have hk1' := (blk_cell HK2.out 1).trans rfl; have hf0' := blk_frozen HK2.out 0; have hf1' := blk_frozen HK2.out 1))
  refine bodyPost_ret (results_none rfl _ _ _) rfl ⟨rfl, ?_, ?_⟩
  · have hN3 := Kd.R_bound (Kd.R_set HN2.out HK2.out no343 1 (.slice A3 (D.length + 1) cc3))
    have hD3 := Kd.R_bound (Kd.R_set HR2.out HK2.out no943 1 (.slice A3 (D.length + 1) cc3))
    refine ⟨Or.inl H1.out, fun k hk => ?_, by simp [H3.out], _, _, blk_put HK2.out 1 _ rfl, ?_, ?_⟩
    · rcases hk with hk | hk
      · have h1 := H2.out k hk
        have h2 := HG1.out.size
        have h3 := HG2.out.size
        simp only [World.size_setCell] at h3 ⊢
        omega
      · exact hk.2
    · refine Kd.R_mono hN3 (fun k hk => ?_)
      rcases hk.1 with h1 | h1
      · exact Or.inl h1
      · exact Or.inr ⟨h1, hk.2.2.1⟩
    · refine Kd.R_mono hD3 (fun k hk => ?_)
      rcases hk.1 with h1 | h1
      · exact Or.inl h1
      · exact Or.inr ⟨h1, hk.2.2.1⟩
  · exact (((((Fr.refl F w).grown HG1.out (fun k hk => Or.inl (HVN.out k hk))).setCell (Or.inl H1.out) _).grown HG2.out (fun k hk => Or.inl (HVD.out k hk))).setCell (Or.inl H1.out) _)

set_option maxHeartbeats 2000000 in
set_option maxRecDepth 100000 in
theorem bookPut_old (kb : Nat) (F : Nat → Prop) (N : List Int) (D : List ByteArray) (n : Int) (d : ByteArray) (w : World) (h : BookAt w F kb N D) (k : Nat) (hp : placeOf N n = k) :
    Calls Try.prog 19 #[.pointer (some ⟨kb, 0, none⟩), .int .i64 n, .string d] w fun e w' => e = .returned (.tuple #[]) ∧ BookAt w' (Fnew F w w') kb N (D.set k d) ∧ Fr F w w' := by
  have H := Aside0.mk h
  obtain ⟨h1, h2, h3, vN, vD, h4, h5, h6⟩ := h
  have hr := firstAt_range (eqB n) N
  have hk : k < D.length := by unfold placeOf at hp; omega
  obtain ⟨g, c2, rfl, _, hgl, cells, hgc⟩ := Kd.R_form h6 (by omega)
  obtain ⟨hcell, hfz⟩ := Kd.R_cell ByteArray.empty h6 (k : Int) (by omega) (by omega)
  rw [Int.toNat_natCast] at hcell hfz
  have hc0 := (blk_cell h4 0).trans rfl
  have hc1 := (blk_cell h4 1).trans rfl
  have HP := Aside0.mk hp
  have H1 := Aside0.mk h1
  have H2 := Aside0.mk h2
  have H3 := Aside0.mk h3
  have H4 := Aside0.mk h4
  have H5 := Aside0.mk h5
  have H6 := Aside0.mk h6
  have HG := Aside0.mk (h6.1 g (by simp [Value.ownBlock]))
  have HNE := Aside0.mk (blk_ne h4 hgc (by decide))
  have HGC := Aside0.mk hgc
  clear h1 h2 h3 h4 h5 h6 hp hr hgc
  have hm : D.length ≤ 9223372036854775807 := by
    obtain ⟨_, _, hC⟩ := Kd.R_reads' H6.out
    exact Kd.C_max hC
  go_enter Try.func19, Try.ntmps19
  go_wp2_with (first
    | (go_at_call 43; refine (place_calls _ _ _ _ _ _ H.out).mono ?_; rintro e w' ⟨rfl, rfl⟩; rw [HP.out]))
  refine bodyPost_end (results_none rfl _ _ _) rfl ⟨rfl, ?_, ?_⟩
  · have hput := (Kd.R_put H6.out (k : Int) d).1
    rw [Int.toNat_natCast] at hput
    refine ⟨Or.inl H1.out, fun i hi => ?_, by simp [H3.out], _, _, (blk_far H4.out HNE.out _), Kd.R_mono (Kd.R_set H5.out HGC.out no93 k (.string d)) (fun i hi => Or.inl hi), Kd.R_mono ?_ (fun i hi => Or.inl hi)⟩
    · rcases hi with hi | hi
      · have := H2.out i hi
        simp only [World.size_setCell]
        exact this
      · exact hi.2
    · exact hput
  · exact (Fr.refl F w).setCell (Or.inl HG.out) _
theorem bookPut_calls (kb : Nat) (F : Nat → Prop) (N : List Int) (D : List ByteArray) (n : Int) (d : ByteArray) (w : World) (h : BookAt w F kb N D) (hN : N.length < 1048576) :
    Calls Try.prog 19 #[.pointer (some ⟨kb, 0, none⟩), .int .i64 n, .string d] w fun e w' => e = .returned (.tuple #[]) ∧ BookAt w' (Fnew F w w') kb (putN N n) (putD N D n d) ∧ Fr F w w' := by
  unfold putN putD
  by_cases hp : placeOf N n < 0
  · rw [if_pos hp, if_pos hp]; exact bookPut_new kb F N D n d w h hN hp
  · rw [if_neg hp, if_neg hp]
    exact bookPut_old kb F N D n d w h _ (by omega)
end Go.Proofs.Ytonbipaajhokfaa
