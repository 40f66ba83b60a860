/-
  Of this claim's texts, laid together by wip/gen/squeeze.py: R1 N16 R2 PChainReadsx11 R3.
-/
import Derived.Test.YtonbipaajhokfaaGreatDoorERq11
import Derived.BigQuiet
import Derived.Test.YtonbipaajhokfaaGreatDoorERq2
section
set_option linter.unusedVariables false
set_option linter.unusedSimpArgs false
namespace Go.Proofs.YtonbipaajhokfaaGreatDoor
open Go.RowKit Go.Proofs.YtonbipaajhokfaaGreatDoorW.PrintWords Go.Proofs.YtonbipaajhokfaaGreatDoorW.PrintLast Go.Proofs.YtonbipaajhokfaaGreatDoorW.PrintMore
/-- A reference's shelf in memory of which no page was freed: its book's blocks are G's. -/
structure RefAt (w : World) (G : Nat → Prop) (kr kb : Nat) (lim p : Int) (N : List Int) (D : List ByteArray) : Prop where
  book : BookAt w G kb N D
  cell : w.heap[kr]? = some (.cells #[.int .i64 lim, .int .i64 1, .int .i64 p, .int .i64 0, .int .i64 0, .int .i64 0, .int .u64 0, .pointer (some ⟨kb, 0, none⟩), .int .i64 (-1)] 78 (0, 0))
  out : ¬ G kr
def RF (G : Nat → Prop) (kr : Nat) : Nat → Prop := fun k => k = kr ∨ G k
section
variable {w w' w0 : World} {G : Nat → Prop} {kr kb : Nat} {lim p : Int} {N : List Int} {D : List ByteArray}
theorem RefAt.lt (h : RefAt w G kr kb lim p N D) : kr < w.heap.size := blk_lt h.cell
theorem RefAt.keep (h : RefAt w G kr kb lim p N D) (hk : ∀ k, RF G kr k → w'.heap[k]? = w.heap[k]?) (hs : w.heap.size ≤ w'.heap.size) : RefAt w' G kr kb lim p N D :=
  ⟨h.book.keep (fun k hg => hk k (Or.inr hg)) hs, (hk kr (Or.inl rfl)).trans h.cell, h.out⟩
theorem RefAt.bound (h : RefAt w G kr kb lim p N D) : ∀ k, RF G kr k → k < w.heap.size := fun k hk => by
  rcases hk with e | e
  · rw [e]; exact h.lt
  · exact h.book.2.1 k e
theorem RefAt.below (h : RefAt w G kr kb lim p N D) (hb : Below w.heap.size w w') : RefAt w' G kr kb lim p N D :=
  h.keep (fun k hk => hb.block k (h.bound k hk)) hb.size
theorem RefAt.fr {F : Nat → Prop} (h : RefAt w G kr kb lim p N D) (hf : Fr F w w') (hn : ∀ k, RF G kr k → ¬ F k) : RefAt w' G kr kb lim p N D :=
  h.keep (fun k hk => hf.block k (h.bound k hk) (hn k hk)) hf.size
theorem RefAt.far (h : RefAt w G kr kb lim p N D) {a : Addr} (h1 : kr ≠ a.block) (h2 : ¬ G a.block) (u : Value) : RefAt (w.setCell a u) G kr kb lim p N D :=
  h.keep (fun k hk => Below.heap_setCell w a u k (fun e => by rcases hk with e2 | e2; exact h1 (e2 ▸ e); exact h2 (e ▸ e2))) (by simp)
theorem RefAt.far6 {q : Nat} (h : RefAt w G kr kb lim p N D) (h1 : kr ≠ q) (h2 : ¬ G q) (y0 y1 y2 y3 y4 y5 : Value) : RefAt ((((((w.setCell ⟨q, 0, none⟩ (y0)).setCell ⟨q, 1, none⟩ (y1)).setCell ⟨q, 2, none⟩ (y2)).setCell ⟨q, 3, none⟩ (y3)).setCell ⟨q, 4, none⟩ (y4)).setCell ⟨q, 5, none⟩ (y5)) G kr kb lim p N D :=
  (((((h.far (a := ⟨q, 0, none⟩) h1 h2 y0).far (a := ⟨q, 1, none⟩) h1 h2 y1).far (a := ⟨q, 2, none⟩) h1 h2 y2).far (a := ⟨q, 3, none⟩) h1 h2 y3).far (a := ⟨q, 4, none⟩) h1 h2 y4).far (a := ⟨q, 5, none⟩) h1 h2 y5
theorem below6 {q : Nat} (h : Below w0.heap.size w0 w) (hq : w0.heap.size ≤ q) (y0 y1 y2 y3 y4 y5 : Value) : Below w0.heap.size w0 ((((((w.setCell ⟨q, 0, none⟩ (y0)).setCell ⟨q, 1, none⟩ (y1)).setCell ⟨q, 2, none⟩ (y2)).setCell ⟨q, 3, none⟩ (y3)).setCell ⟨q, 4, none⟩ (y4)).setCell ⟨q, 5, none⟩ (y5)) :=
  below_set (below_set (below_set (below_set (below_set (below_set h hq) hq) hq) hq) hq) hq
theorem shFr6' {F : Nat → Prop} (h : Fr F w0 w) (hk : F kr ∨ w0.heap.size ≤ kr) (y0 y1 y2 y3 y4 y5 : Value) : Fr F w0 ((((((w.setCell ⟨kr, 1, none⟩ (y0)).setCell ⟨kr, 2, none⟩ (y1)).setCell ⟨kr, 3, none⟩ (y2)).setCell ⟨kr, 4, none⟩ (y3)).setCell ⟨kr, 5, none⟩ (y4)).setCell ⟨kr, 6, none⟩ (y5)) :=
  (((((h.setCell (p := ⟨kr, 1, none⟩) hk y0).setCell (p := ⟨kr, 2, none⟩) hk y1).setCell (p := ⟨kr, 3, none⟩) hk y2).setCell (p := ⟨kr, 4, none⟩) hk y3).setCell (p := ⟨kr, 5, none⟩) hk y4).setCell (p := ⟨kr, 6, none⟩) hk y5
/-- The head is written: a page more. -/
theorem RefAt.grown (h : RefAt w G kr kb lim p N D) : RefAt ((((((w.setCell ⟨kr, 1, none⟩ (.int .i64 1)).setCell ⟨kr, 2, none⟩ (.int .i64 (p + 1))).setCell ⟨kr, 3, none⟩ (.int .i64 0)).setCell ⟨kr, 4, none⟩ (.int .i64 0)).setCell ⟨kr, 5, none⟩ (.int .i64 0)).setCell ⟨kr, 6, none⟩ (.int .u64 0)) G kr kb lim (p + 1) N D where
  book := h.book.keep (fun k hk => by
    have hn : k ≠ kr := fun e => h.out (e ▸ hk)
    simp only [Below.heap_setCell _ (⟨kr, 1, none⟩ : Addr) _ k hn, Below.heap_setCell _ (⟨kr, 2, none⟩ : Addr) _ k hn, Below.heap_setCell _ (⟨kr, 3, none⟩ : Addr) _ k hn, Below.heap_setCell _ (⟨kr, 4, none⟩ : Addr) _ k hn, Below.heap_setCell _ (⟨kr, 5, none⟩ : Addr) _ k hn, Below.heap_setCell _ (⟨kr, 6, none⟩ : Addr) _ k hn]) (by simp)
  cell := blk_put (blk_put (blk_put (blk_put (blk_put (blk_put h.cell 1 _ rfl) 2 _ rfl) 3 _ rfl) 4 _ rfl) 5 _ rfl) 6 _ rfl
  out := h.out
theorem RefAt.stored {N' : List Int} {D' : List ByteArray} (h : RefAt w G kr kb lim p N D) (hb : BookAt w' (Fnew G w w') kb N' D') (hf : Fr G w w') : RefAt w' (Fnew G w w') kr kb lim p N' D' where
  book := hb
  cell := hf.blk h.cell h.out
  out := fun e => by
    rcases e with e | e
    · exact h.out e
    · have := h.lt; omega
end
set_option maxHeartbeats 8000000 in
set_option maxRecDepth 100000 in
theorem refNew_calls (lim : Int) (w : World) (h1 : 1 ≤ lim) (h2 : lim ≤ 4096) :
    Calls Tryz.prog 17 #[.int .i64 lim] w fun e w' => ∃ kr kb, e = .returned (.pointer (some ⟨kr, 0, none⟩)) ∧ RefAt w' (fun k => k = kb) kr kb lim 1 [] [] ∧ w.heap.size ≤ kr ∧ w.heap.size ≤ kb ∧ Below w.heap.size w w' := by
  have t1 : decide (lim < 1) = false := decide_eq_false (by omega)
  have t2 : decide (4096 < lim) = false := decide_eq_false (by omega)
  go_enter Tryz.func17, Tryz.ntmps17
  go_wp2_with (go_at_call 33; refine (refFresh_calls _).mono ?_; rintro e w1 ⟨rfl, hb1⟩)
  go_ret
  have hk := blk_new w1 (.cells #[.slice none 0 0, .slice none 0 0] 76)
  refine ⟨w1.heap.size + 1, w1.heap.size, rfl, ⟨?_, ?_, by omega⟩, Nat.le_trans hb1.size (by omega), hb1.size, ?_⟩
  · refine ⟨rfl, fun k hk => by subst hk; simp; omega, rfl, .slice none 0 0, .slice none 0 0, blk_alloc hk _, Kd.R_nil _ _ _ _ _, Kd.R_nil _ _ _ _ _⟩
  · have := blk_new (w1.alloc (.cells #[.slice none 0 0, .slice none 0 0] 76)) (.cells #[.int .i64 lim, .int .i64 1, .int .i64 1, .int .i64 0, .int .i64 0, .int .i64 0, .int .u64 0, .pointer (some ⟨w1.heap.size, 0, none⟩), .int .i64 (-1)] 78)
    rw [World.size_alloc] at this
    exact this
  · exact hb1.trans ((below_alloc (below_alloc (Below.refl w1.heap.size w1) _) _).mono hb1.size)
section
variable {G : Nat → Prop} {kr kb : Nat} {lim p : Int} {N : List Int} {D : List ByteArray}
set_option maxHeartbeats 8000000 in
set_option maxRecDepth 100000 in
theorem refBegin_calls (w : World) (h : RefAt w G kr kb lim p N D) :
    Calls Tryz.prog 34 #[.pointer (some ⟨kr, 0, none⟩)] w fun e w' => e = .returned (.int .i64 0) ∧ w = w' := by
  have a8 : w.cell? ⟨kr, 8, none⟩ = some (.int .i64 (-1)) := (blk_cell h.cell 8).trans rfl
  clear h
  go_enter Tryz.func34, Tryz.ntmps34
  go_wp2
  go_ret
  exact ⟨rfl, rfl⟩
set_option maxHeartbeats 8000000 in
set_option maxRecDepth 100000 in
theorem refIs_calls (n : Int) (w : World) (h : RefAt w G kr kb lim p N D) :
    Calls Tryz.prog 39 #[.pointer (some ⟨kr, 0, none⟩), .int .i64 n] w fun e w' => e = .returned (.bool (decide (1 ≤ n) && decide (n < p))) ∧ w = w' := by
  have a2 : w.cell? ⟨kr, 2, none⟩ = some (.int .i64 p) := (blk_cell h.cell 2).trans rfl
  clear h
  go_enter Tryz.func39, Tryz.ntmps39
  cases h1 : decide (1 ≤ n) <;> cases h2 : decide (n < p)
  all_goals
    go_wp2
    go_ret
    exact ⟨rfl, rfl⟩
set_option maxHeartbeats 8000000 in
set_option maxRecDepth 100000 in
theorem refGet_calls (n : Int) (w : World) (h : RefAt w G kr kb lim p N D) :
    Calls Tryz.prog 29 #[.pointer (some ⟨kr, 0, none⟩), .int .i64 n] w fun e w' => e = .returned (if 1 ≤ n ∧ n < p then .tuple #[.string (getB N D n), .int .i64 0] else .tuple #[.string ⟨#[]⟩, .int .i64 21]) ∧ Below w.heap.size w w' := by
  have H := Aside0.mk h
  have a7 : w.cell? ⟨kr, 7, none⟩ = some (.pointer (some ⟨kb, 0, none⟩)) := (blk_cell h.cell 7).trans rfl
  have hb := fun W (hW : RefAt W G kr kb lim p N D) => refBegin_calls W hW
  have hi := fun W (hW : RefAt W G kr kb lim p N D) => refIs_calls n W hW
  have hg := fun W (hW : RefAt W G kr kb lim p N D) => bookGet_calls kb G N D n W hW.book
  clear h
  by_cases hin : 1 ≤ n ∧ n < p
  · rw [if_pos hin]
    have e : (decide (1 ≤ n) && decide (n < p)) = true := by simp [hin.1, hin.2]
    rw [e] at hi
    clear hin e
    go_enter Tryz.func29, Tryz.ntmps29
    go_wp2_with (first | (go_at_call 34; refine (hb _ H.out).mono ?_; rintro e w1 ⟨rfl, rfl⟩) | (go_at_call 39; refine (hi _ H.out).mono ?_; rintro e w1 ⟨rfl, rfl⟩) | (go_at_call 49; refine (hg _ H.out).mono ?_; rintro e w1 ⟨rfl, hb1⟩))
    go_ret2
    exact ⟨rfl, hb1⟩
  · rw [if_neg hin]
    have e : (decide (1 ≤ n) && decide (n < p)) = false := by
      cases h1 : decide (1 ≤ n)
      · rfl
      · have := of_decide_eq_true h1
        rw [Bool.true_and]
        exact decide_eq_false (fun h2 => hin ⟨this, h2⟩)
    rw [e] at hi
    clear hin e
    go_enter Tryz.func29, Tryz.ntmps29
    go_wp2_with (first | (go_at_call 34; refine (hb _ H.out).mono ?_; rintro e w1 ⟨rfl, rfl⟩) | (go_at_call 39; refine (hi _ H.out).mono ?_; rintro e w1 ⟨rfl, rfl⟩))
    go_ret2
    exact ⟨rfl, Below.refl _ _⟩
set_option maxHeartbeats 8000000 in
set_option maxRecDepth 100000 in
theorem refPut_calls (n : Int) (d : ByteArray) (w : World) (h : RefAt w G kr kb lim p N D) (h1 : 1 ≤ n) (h2 : n < p) (hd : d.size = 232) (hN : N.length < 1048576) :
    Calls Tryz.prog 21 #[.pointer (some ⟨kr, 0, none⟩), .int .i64 n, .string d] w fun e w' => e = .returned (.int .i64 0) ∧ RefAt w' (Fnew G w w') kr kb lim p (putN N n) (putD N D n d) ∧ Fr (RF G kr) w w' := by
  have H := Aside0.mk h
  have a7 : w.cell? ⟨kr, 7, none⟩ = some (.pointer (some ⟨kb, 0, none⟩)) := (blk_cell h.cell 7).trans rfl
  have hb := fun W (hW : RefAt W G kr kb lim p N D) => refBegin_calls W hW
  have hi := fun W (hW : RefAt W G kr kb lim p N D) => refIs_calls n W hW
  have e : (decide (1 ≤ n) && decide (n < p)) = true := by simp [h1, h2]
  rw [e] at hi
  have hg := Aside0.mk (fun W (hW : RefAt W G kr kb lim p N D) => bookPut_calls kb G N D n d W hW.book hN)
  clear h h1 h2 e hN
  go_enter Tryz.func21, Tryz.ntmps21
  go_wp2_with (first | (go_at_call 34; refine (hb _ H.out).mono ?_; rintro e w1 ⟨rfl, rfl⟩) | (go_at_call 39; refine (hi _ H.out).mono ?_; rintro e w1 ⟨rfl, rfl⟩) | (go_at_call 36; refine (hg.out _ H.out).mono ?_; rintro e w1 ⟨rfl, hk, hf⟩))
  go_ret
  exact ⟨rfl, H.out.stored hk hf, hf.mono (fun _ _ h => Or.inr h)⟩
set_option maxHeartbeats 8000000 in
set_option maxRecDepth 100000 in
theorem refMore_calls (w : World) (h : RefAt w G kr kb lim p N D) (h0 : 1 ≤ p) (h1 : p < lim) (h2 : lim ≤ 4096) (hN : N.length < 1048576) :
    Calls Tryz.prog 19 #[.pointer (some ⟨kr, 0, none⟩)] w fun e w' => e = .returned (.tuple #[.int .i64 p, .int .i64 0]) ∧ ∃ G' : Nat → Prop, RefAt w' G' kr kb lim (p + 1) (putN N p) (putD N D p (bs blankL)) ∧ (∀ k, G' k → G k ∨ w.heap.size ≤ k) ∧ Fr (RF G kr) w w' := by
  have H := Aside0.mk h
  have HN := Aside0.mk hN
  have hu48 := Tryz.underlying48
  have HBG := Aside0.mk (fun W (hW : RefAt W G kr kb lim p N D) => refBegin_calls W hW)
  have HTK := Aside0.mk (fun W => refTake_new kb 1 p 0 0 0 0 W rfl (by omega) (by omega))
  unfold Hd.v at HTK
  dsimp only at HTK
  have t2 : decide (lim ≤ p) = false := decide_eq_false (by omega)
  clear h hN
  go_enter Tryz.func19, Tryz.ntmps19
  go_wp2_with fail
  refine (HBG.out w H.out).mono ?_
  rintro e w1 ⟨rfl, rfl⟩
  clear HBG
  have a0 : w.cell? ⟨kr, 0, none⟩ = some (.int .i64 lim) := (blk_cell (H.out).cell 0).trans rfl
  have a2 : w.cell? ⟨kr, 2, none⟩ = some (.int .i64 p) := (blk_cell (H.out).cell 2).trans rfl
  have a4 : w.cell? ⟨kr, 4, none⟩ = some (.int .i64 0) := (blk_cell (H.out).cell 4).trans rfl
  have a7 : w.cell? ⟨kr, 7, none⟩ = some (.pointer (some ⟨kb, 0, none⟩)) := (blk_cell (H.out).cell 7).trans rfl
  go_wp2_with fail
  go_quiet (fail)
  clear a0 a2 a4 a7
  have HRW := Aside0.mk (pw_below_drewN (Below.refl w.heap.size w) nq)
  replace H := Aside0.mk (H.out.below (pw_below_drewN (Below.refl _ _) nq))
  generalize w.drewN nq = wq at H HRW ⊢
  go_wp2_with fail
  refine start_ (n := 17) (S := fun w' => w'.cell? ⟨kr, 1, none⟩ = some (.int .i64 1) ∧ w'.cell? ⟨kr, 2, none⟩ = some (.int .i64 p) ∧ w'.cell? ⟨kr, 3, none⟩ = some (.int .i64 0) ∧ w'.cell? ⟨kr, 4, none⟩ = some (.int .i64 0) ∧ w'.cell? ⟨kr, 5, none⟩ = some (.int .i64 0) ∧ w'.cell? ⟨kr, 6, none⟩ = some (.int .u64 0) ∧ w'.cell? ⟨kr, 7, none⟩ = some (.pointer (some ⟨kb, 0, none⟩))) (ds := [15]) #[false, false, false, false, false, false, false, false, false, false, false, false, false, false, false, false, false] (by kernel_rfl) rfl rfl ⟨(blk_cell (H.out.below (Below.refl _ _).drew).cell 1).trans rfl, (blk_cell (H.out.below (Below.refl _ _).drew).cell 2).trans rfl, (blk_cell (H.out.below (Below.refl _ _).drew).cell 3).trans rfl, (blk_cell (H.out.below (Below.refl _ _).drew).cell 4).trans rfl, (blk_cell (H.out.below (Below.refl _ _).drew).cell 5).trans rfl, (blk_cell (H.out.below (Below.refl _ _).drew).cell 6).trans rfl, (blk_cell (H.out.below (Below.refl _ _).drew).cell 7).trans rfl⟩ (fun hHeld => ?_)
  replace H := Aside0.mk (H.out.below (Below.refl _ _).drew)
  replace HRW := Aside0.mk (below_drew HRW.out)
  generalize wq.drew = wd at H HRW hHeld ⊢
  refine pure_ (i := 0) (N := some 32) (v := ?_) (a' := ?_) #[true, false, false, false, false, false, false, false, false, false, false, false, false, false, false, false, false] rfl rfl (by kernel_rfl) (fun _ _ _ h => h) (Or.inl ⟨by rfl, ?_⟩) ?_ ?_
  rotate_left
  · intro w'
    go_simp
    with_reducible rfl
  rotate_left
  · simp only [putAll, Act.put, List.setIfInBounds_toArray, List.set_cons_zero, List.set_cons_succ]
    rfl
  refine pure_ (i := 1) (N := some 33) (v := ?_) (a' := ?_) #[true, true, false, false, false, false, false, false, false, false, false, false, false, false, false, false, false] rfl rfl (by kernel_rfl) (fun _ _ _ h => h) (Or.inl ⟨by rfl, ?_⟩) ?_ ?_
  rotate_left
  · intro w'
    go_simp
    with_reducible rfl
  rotate_left
  · simp only [putAll, Act.put, List.setIfInBounds_toArray, List.set_cons_zero, List.set_cons_succ]
    rfl
  refine pure_ (i := 2) (N := some 34) (v := ?_) (a' := ?_) #[true, true, true, false, false, false, false, false, false, false, false, false, false, false, false, false, false] rfl rfl (by kernel_rfl) (fun _ _ _ h => h) (Or.inl ⟨by rfl, ?_⟩) ?_ ?_
  rotate_left
  · intro w'
    go_simp
    with_reducible rfl
  rotate_left
  · simp only [putAll, Act.put, List.setIfInBounds_toArray, List.set_cons_zero, List.set_cons_succ]
    rfl
  refine pure_ (i := 4) (N := some 36) (v := ?_) (a' := ?_) #[true, true, true, false, true, false, false, false, false, false, false, false, false, false, false, false, false] rfl rfl (by kernel_rfl) (fun _ _ _ h => h) (Or.inl ⟨by rfl, ?_⟩) ?_ ?_
  rotate_left
  · intro w'
    go_simp
    with_reducible rfl
  rotate_left
  · simp only [putAll, Act.put, List.setIfInBounds_toArray, List.set_cons_zero, List.set_cons_succ]
    rfl
  refine pure_ (i := 5) (N := some 37) (v := ?_) (a' := ?_) #[true, true, true, false, true, true, false, false, false, false, false, false, false, false, false, false, false] rfl rfl (by kernel_rfl) (fun _ _ _ h => h) (Or.inl ⟨by rfl, ?_⟩) ?_ ?_
  rotate_left
  · intro w'
    go_simp
    with_reducible rfl
  rotate_left
  · simp only [putAll, Act.put, List.setIfInBounds_toArray, List.set_cons_zero, List.set_cons_succ]
    rfl
  refine pure_ (i := 6) (N := some 38) (v := ?_) (a' := ?_) #[true, true, true, false, true, true, true, false, false, false, false, false, false, false, false, false, false] rfl rfl (by kernel_rfl) (fun _ _ _ h => h) (Or.inl ⟨by rfl, ?_⟩) ?_ ?_
  rotate_left
  · intro w'
    go_simp
    with_reducible rfl
  rotate_left
  · simp only [putAll, Act.put, List.setIfInBounds_toArray, List.set_cons_zero, List.set_cons_succ]
    rfl
  refine take_ (i := 3) (N := some 35) (v := ?_) (a' := ?_) #[true, true, true, true, true, true, true, false, false, false, false, false, false, false, false, false, false] rfl rfl (by kernel_rfl) (fun _ _ _ h => h) (Or.inl ⟨by rfl, ?_⟩) hHeld ?_ ?_
  rotate_left
  · rintro w' ⟨s1, s2, s3, s4, s5, s6, s7⟩
    go_simp
    with_reducible rfl
  rotate_left
  · simp only [putAll, Act.put, List.setIfInBounds_toArray, List.set_cons_zero, List.set_cons_succ]
    rfl
  refine take_ (i := 7) (N := some 39) (v := ?_) (a' := ?_) #[true, true, true, true, true, true, true, true, false, false, false, false, false, false, false, false, false] rfl rfl (by kernel_rfl) (fun _ _ _ h => h) (Or.inl ⟨by rfl, ?_⟩) hHeld ?_ ?_
  rotate_left
  · rintro w' ⟨s1, s2, s3, s4, s5, s6, s7⟩
    go_simp
    with_reducible rfl
  rotate_left
  · simp only [putAll, Act.put, List.setIfInBounds_toArray, List.set_cons_zero, List.set_cons_succ]
    rfl
  refine join_ 3 #[true, true, true, true, true, true, true, true, true, true, true, true, true, true, false, false, false] (fun q : Nat => [(40, .tuple #[.int .i64 p, .agg #[.int .i64 1, .int .i64 (p + 1), .int .i64 0, .int .i64 0, .int .i64 0, .int .u64 0], .int .i64 0]), (31, .tuple #[.int .i64 p, .agg #[.int .i64 1, .int .i64 (p + 1), .int .i64 0, .int .i64 0, .int .i64 0, .int .u64 0], .int .i64 0]), (41, .int .i64 p), (42, .agg #[.int .i64 1, .int .i64 (p + 1), .int .i64 0, .int .i64 0, .int .i64 0, .int .u64 0]), (43, .int .i64 0), (6, .pointer (some ⟨q, 0, none⟩))]) (fun q w' => RefAt w' G kr kb lim p N D ∧ Below w.heap.size w w' ∧ w'.heap[q]? = some (.cells #[.int .i64 0, .int .i64 0, .int .i64 0, .int .i64 0, .int .i64 0, .int .u64 0] 48 (0, 0)) ∧ kr ≠ q ∧ ¬ G q ∧ w.heap.size ≤ q) ?_ (fun hcont => ?_)
  · intro q w3 hf
    obtain ⟨hS3, hR3, hQ3, hksq, hmbq, hqB⟩ := hf
    clear hHeld H HRW
    have qf0 : w3.frozen? ⟨q, 0, none⟩ = false := blk_frozen hQ3 0
    have qf1 : w3.frozen? ⟨q, 1, none⟩ = false := blk_frozen hQ3 1
    have qf2 : w3.frozen? ⟨q, 2, none⟩ = false := blk_frozen hQ3 2
    have qf3 : w3.frozen? ⟨q, 3, none⟩ = false := blk_frozen hQ3 3
    have qf4 : w3.frozen? ⟨q, 4, none⟩ = false := blk_frozen hQ3 4
    have qf5 : w3.frozen? ⟨q, 5, none⟩ = false := blk_frozen hQ3 5
    have qc0 : w3.cell? ⟨q, 0, none⟩ = some (.int .i64 0) := (blk_cell hQ3 0).trans rfl
    have qc1 : w3.cell? ⟨q, 1, none⟩ = some (.int .i64 0) := (blk_cell hQ3 1).trans rfl
    have qc2 : w3.cell? ⟨q, 2, none⟩ = some (.int .i64 0) := (blk_cell hQ3 2).trans rfl
    have qc3 : w3.cell? ⟨q, 3, none⟩ = some (.int .i64 0) := (blk_cell hQ3 3).trans rfl
    have qc4 : w3.cell? ⟨q, 4, none⟩ = some (.int .i64 0) := (blk_cell hQ3 4).trans rfl
    have qc5 : w3.cell? ⟨q, 5, none⟩ = some (.int .u64 0) := (blk_cell hQ3 5).trans rfl
    refine norm_ (a' := ?_) ?_ ?_
    rotate_left
    · simp only [putAll, Act.put, List.setIfInBounds_toArray, List.set_cons_zero, List.set_cons_succ]
      rfl
    refine pure_ (i := 14) (N := some 5) (v := ?_) (a' := ?_) #[true, true, true, true, true, true, true, true, true, true, true, true, true, true, true, false, false] rfl rfl (by kernel_rfl) (fun _ _ _ h => h) (Or.inl ⟨by rfl, ?_⟩) ?_ ?_
    rotate_left
    · intro w'
      go_simp
      with_reducible rfl
    rotate_left
    · simp only [putAll, Act.put, List.setIfInBounds_toArray, List.set_cons_zero, List.set_cons_succ]
      rfl
    refine last_ (i := 15) (N := none) #[true, true, true, true, true, true, true, true, true, true, true, true, true, true, true, true, false] rfl rfl (by kernel_rfl) (by decide) (fun K hK => ?_)
    refine skip_ (w1 := ((((((w3.setCell ⟨q, 0, none⟩ (.int .i64 1)).setCell ⟨q, 1, none⟩ (.int .i64 (p + 1))).setCell ⟨q, 2, none⟩ (.int .i64 0)).setCell ⟨q, 3, none⟩ (.int .i64 0)).setCell ⟨q, 4, none⟩ (.int .i64 0)).setCell ⟨q, 5, none⟩ (.int .u64 0))) (by rfl) rfl (by go_simp) ?_
    refine hK.out _ _ ?_
    clear hK K
    clear qf0 qc0 qf1 qc1 qf2 qc2 qf3 qc3 qf4 qc4 qf5 qc5
    have HS4 := Aside0.mk (hS3.far6 hksq hmbq (.int .i64 1) (.int .i64 (p + 1)) (.int .i64 0) (.int .i64 0) (.int .i64 0) (.int .u64 0))
    have HR4 := Aside0.mk (below6 hR3 hqB (.int .i64 1) (.int .i64 (p + 1)) (.int .i64 0) (.int .i64 0) (.int .i64 0) (.int .u64 0))
    have HQ4 := Aside0.mk (put6 hQ3 (.int .i64 1) (.int .i64 (p + 1)) (.int .i64 0) (.int .i64 0) (.int .i64 0) (.int .u64 0))
    generalize ((((((w3.setCell ⟨q, 0, none⟩ (.int .i64 1)).setCell ⟨q, 1, none⟩ (.int .i64 (p + 1))).setCell ⟨q, 2, none⟩ (.int .i64 0)).setCell ⟨q, 3, none⟩ (.int .i64 0)).setCell ⟨q, 4, none⟩ (.int .i64 0)).setCell ⟨q, 5, none⟩ (.int .u64 0)) = w4 at HS4 HR4 HQ4 ⊢
    have HKQ := Aside0.mk hksq
    clear hS3 hR3 hQ3 hqB hksq hmbq
    refine pure_ (i := 16) (N := some 7) (v := ?_) (a' := ?_) #[true, true, true, true, true, true, true, true, true, true, true, true, true, true, true, true, true] rfl rfl (by kernel_rfl) (fun _ _ _ h => h) (Or.inl ⟨by rfl, ?_⟩) ?_ ?_
    rotate_left
    · intro w'
      go_simp
      with_reducible rfl
    rotate_left
    · simp only [putAll, Act.put, List.setIfInBounds_toArray, List.set_cons_zero, List.set_cons_succ]
      rfl
    refine done_ (by kernel_rfl) ?_
    have a1 : w4.cell? ⟨kr, 1, none⟩ = some (.int .i64 1) := (blk_cell (HS4.out).cell 1).trans rfl
    have a2 : w4.cell? ⟨kr, 2, none⟩ = some (.int .i64 p) := (blk_cell (HS4.out).cell 2).trans rfl
    have a3 : w4.cell? ⟨kr, 3, none⟩ = some (.int .i64 0) := (blk_cell (HS4.out).cell 3).trans rfl
    have a4 : w4.cell? ⟨kr, 4, none⟩ = some (.int .i64 0) := (blk_cell (HS4.out).cell 4).trans rfl
    have a5 : w4.cell? ⟨kr, 5, none⟩ = some (.int .i64 0) := (blk_cell (HS4.out).cell 5).trans rfl
    have a6 : w4.cell? ⟨kr, 6, none⟩ = some (.int .u64 0) := (blk_cell (HS4.out).cell 6).trans rfl
    have f1 : w4.frozen? ⟨kr, 1, none⟩ = false := blk_frozen (HS4.out).cell 1
    have f2 : w4.frozen? ⟨kr, 2, none⟩ = false := blk_frozen (HS4.out).cell 2
    have f3 : w4.frozen? ⟨kr, 3, none⟩ = false := blk_frozen (HS4.out).cell 3
    have f4 : w4.frozen? ⟨kr, 4, none⟩ = false := blk_frozen (HS4.out).cell 4
    have f5 : w4.frozen? ⟨kr, 5, none⟩ = false := blk_frozen (HS4.out).cell 5
    have f6 : w4.frozen? ⟨kr, 6, none⟩ = false := blk_frozen (HS4.out).cell 6
    have b0 : w4.cell? ⟨q, 0, none⟩ = some (.int .i64 1) := (blk_cell HQ4.out 0).trans rfl
    have b1 : w4.cell? ⟨q, 1, none⟩ = some (.int .i64 (p + 1)) := (blk_cell HQ4.out 1).trans rfl
    have b2 : w4.cell? ⟨q, 2, none⟩ = some (.int .i64 0) := (blk_cell HQ4.out 2).trans rfl
    have b3 : w4.cell? ⟨q, 3, none⟩ = some (.int .i64 0) := (blk_cell HQ4.out 3).trans rfl
    have b4 : w4.cell? ⟨q, 4, none⟩ = some (.int .i64 0) := (blk_cell HQ4.out 4).trans rfl
    have b5 : w4.cell? ⟨q, 5, none⟩ = some (.int .u64 0) := (blk_cell HQ4.out 5).trans rfl
    have hkq : ¬ kr = q := HKQ.out
    have hqk : ¬ q = kr := Ne.symm HKQ.out
    go_wp2_with fail
    have HS5 := Aside0.mk HS4.out.grown
    have HR5 := Aside0.mk (shFr6' (Fr.of_below (F := RF G kr) HR4.out) (Or.inl (Or.inl rfl)) (.int .i64 1) (.int .i64 (p + 1)) (.int .i64 0) (.int .i64 0) (.int .i64 0) (.int .u64 0))
    generalize ((((((w4.setCell ⟨kr, 1, none⟩ (.int .i64 1)).setCell ⟨kr, 2, none⟩ (.int .i64 (p + 1))).setCell ⟨kr, 3, none⟩ (.int .i64 0)).setCell ⟨kr, 4, none⟩ (.int .i64 0)).setCell ⟨kr, 5, none⟩ (.int .i64 0)).setCell ⟨kr, 6, none⟩ (.int .u64 0)) = w5 at HS5 HR5 ⊢
    clear a1 f1 a2 f2 a3 f3 a4 f4 a5 f5 a6 f6 b0 b1 b2 b3 b4 b5 hkq hqk HKQ HS4 HR4 HQ4
    refine start_ (n := 7) (S := fun w' => w'.cell? ⟨kr, 7, none⟩ = some (.pointer (some ⟨kb, 0, none⟩))) (ds := []) #[false, false, false, false, false, false, false] (by kernel_rfl) rfl rfl ((blk_cell (HS5.out.below (Below.refl _ _).drew).cell 7).trans rfl) (fun hHeld => ?_)
    replace HS5 := Aside0.mk (HS5.out.below (Below.refl _ _).drew)
    replace HR5 := Aside0.mk (Fr.then_below HR5.out (Below.refl _ _).drew)
    generalize w5.drew = w6 at HS5 HR5 hHeld ⊢
    refine pure_ (i := 0) (N := some 51) (v := ?_) (a' := ?_) #[true, false, false, false, false, false, false] rfl rfl (by kernel_rfl) (fun _ _ _ h => h) (Or.inl ⟨by rfl, ?_⟩) ?_ ?_
    rotate_left
    · intro w'
      go_simp
      with_reducible rfl
    rotate_left
    · simp only [Act.put, List.setIfInBounds_toArray, List.set_cons_zero, List.set_cons_succ]
      rfl
    refine pure_ (i := 1) (N := some 52) (v := ?_) (a' := ?_) #[true, true, false, false, false, false, false] rfl rfl (by kernel_rfl) (fun _ _ _ h => h) (Or.inl ⟨by rfl, ?_⟩) ?_ ?_
    rotate_left
    · intro w'
      go_simp
      with_reducible rfl
    rotate_left
    · simp only [Act.put, List.setIfInBounds_toArray, List.set_cons_zero, List.set_cons_succ]
      rfl
    refine pure_ (i := 2) (N := some 53) (v := ?_) (a' := ?_) #[true, true, true, false, false, false, false] rfl rfl (by kernel_rfl) (fun _ _ _ h => h) (Or.inl ⟨by rfl, ?_⟩) ?_ ?_
    rotate_left
    · intro w'
      go_simp
      with_reducible rfl
    rotate_left
    · simp only [Act.put, List.setIfInBounds_toArray, List.set_cons_zero, List.set_cons_succ]
      rfl
    refine take_ (i := 3) (N := some 54) (v := ?_) (a' := ?_) #[true, true, true, true, false, false, false] rfl rfl (by kernel_rfl) (fun _ _ _ h => h) (Or.inl ⟨by rfl, ?_⟩) hHeld ?_ ?_
    rotate_left
    · rintro w' s7
      go_simp
      with_reducible rfl
    rotate_left
    · simp only [Act.put, List.setIfInBounds_toArray, List.set_cons_zero, List.set_cons_succ]
      rfl
    refine pure_ (i := 4) (N := some 55) (v := ?_) (a' := ?_) #[true, true, true, true, true, false, false] rfl rfl (by kernel_rfl) (fun _ _ _ h => h) (Or.inl ⟨by rfl, ?_⟩) ?_ ?_
    rotate_left
    · intro w'
      go_simp
      with_reducible rfl
    rotate_left
    · simp only [Act.put, List.setIfInBounds_toArray, List.set_cons_zero, List.set_cons_succ]
      rfl
    refine one_ (i := 5) (N := some 56) #[true, true, true, true, true, true, false] rfl rfl (by kernel_rfl) (by decide) (fun K hK => ?_)
    refine call_ 27 #[.string ⟨#[]⟩] (by rfl) rfl (by go_simp) ?_
    refine (full_empty_calls w6).mono ?_
    rintro e w7 ⟨rfl, hb7⟩
    refine ⟨.string (bs blankL), rfl, ?_⟩
    replace HS5 := Aside0.mk (HS5.out.below hb7)
    replace HR5 := Aside0.mk (Fr.then_below HR5.out hb7)
    clear hb7
    refine hK.out _ _ ((blk_cell HS5.out.cell 7).trans rfl) (fun hHeld => ?_)
    clear hK K
    refine norm_ (a' := ?_) ?_ ?_
    rotate_left
    · show Act.put _ (some 56) _ = _
      simp only [Act.put, List.setIfInBounds_toArray, List.set_cons_zero, List.set_cons_succ]
      rfl
    refine one_ (i := 6) (N := some 57) #[true, true, true, true, true, true, true] rfl rfl (by kernel_rfl) (by decide) (fun K hK => ?_)
    refine call_ 36 #[.pointer (some ⟨kb, 0, none⟩), .int .i64 p, .string (bs blankL)] (by rfl) rfl (by go_simp) ?_
    refine (bookPut_calls kb G N D p (bs blankL) w7 HS5.out.book HN.out).mono ?_
    rintro e w8 ⟨rfl, hb, hf⟩
    refine ⟨.tuple #[], rfl, ?_⟩
    have HS8 := Aside0.mk (HS5.out.stored hb hf)
    have HR8 := Aside0.mk (HR5.out.trans (hf.mono (F' := RF G kr) (fun _ _ h => Or.inr h)) (fun _ _ h => h))
    have HG8 := Aside0.mk (fun k (hk : Fnew G w7 w8 k) => show G k ∨ w.heap.size ≤ k from hk.elim Or.inl (fun h => Or.inr (Nat.le_trans HR5.out.size h.1)))
    clear hb hf
    refine hK.out _ _ ((blk_cell HS8.out.cell 7).trans rfl) (fun hHeld => ?_)
    clear hK K HS5 HR5
    refine norm_ (a' := ?_) ?_ ?_
    rotate_left
    · show Act.put _ (some 57) _ = _
      simp only [Act.put, List.setIfInBounds_toArray, List.set_cons_zero, List.set_cons_succ]
      rfl
    refine done_ (by kernel_rfl) ?_
    go_wp2
    go_ret2
    exact ⟨rfl, _, HS8.out, HG8.out, HR8.out⟩
  refine two_ (i := 8) (j := 13) (Ni := some 40) (Nj := some 6) #[true, true, true, true, true, true, true, true, true, false, false, false, false, false, false, false, false] #[true, true, true, true, true, true, true, true, false, false, false, false, false, true, false, false, false] rfl rfl rfl rfl (by kernel_rfl) (by decide) (by decide) (fun K hK => ?_) (fun K hK => ?_)
  · refine call_ 35 #[.agg #[.int .i64 1, .int .i64 p, .int .i64 0, .int .i64 0, .int .i64 0, .int .u64 0], .pointer (some ⟨kb, 0, none⟩)] (by rfl) rfl (by go_simp) ?_
    refine (HTK.out wd).mono ?_
    rintro e w2 ⟨rfl, hb2⟩
    refine ⟨.tuple #[.int .i64 p, .agg #[.int .i64 1, .int .i64 (p + 1), .int .i64 0, .int .i64 0, .int .i64 0, .int .u64 0], .int .i64 0], rfl, ?_⟩
    have hS2 := H.out.below hb2
    have hR2 := below_step HRW.out hb2
    refine hK.out _ _ ⟨(blk_cell (hS2).cell 1).trans rfl, (blk_cell (hS2).cell 2).trans rfl, (blk_cell (hS2).cell 3).trans rfl, (blk_cell (hS2).cell 4).trans rfl, (blk_cell (hS2).cell 5).trans rfl, (blk_cell (hS2).cell 6).trans rfl, (blk_cell (hS2).cell 7).trans rfl⟩ (fun hHeld => ?_)
    clear hK K
    refine norm_ (a' := ?_) ?_ ?_
    rotate_left
    · show Act.put _ (some 40) _ = _
      simp only [putAll, Act.put, List.setIfInBounds_toArray, List.set_cons_zero, List.set_cons_succ]
      rfl
    refine pure_ (i := 9) (N := some 31) (v := ?_) (a' := ?_) #[true, true, true, true, true, true, true, true, true, true, false, false, false, false, false, false, false] rfl rfl (by kernel_rfl) (fun _ _ _ h => h) (Or.inl ⟨by rfl, ?_⟩) ?_ ?_
    rotate_left
    · intro w'
      go_simp
      with_reducible rfl
    rotate_left
    · simp only [putAll, Act.put, List.setIfInBounds_toArray, List.set_cons_zero, List.set_cons_succ]
      rfl
    refine pure_ (i := 10) (N := some 41) (v := ?_) (a' := ?_) #[true, true, true, true, true, true, true, true, true, true, true, false, false, false, false, false, false] rfl rfl (by kernel_rfl) (fun _ _ _ h => h) (Or.inl ⟨by rfl, ?_⟩) ?_ ?_
    rotate_left
    · intro w'
      go_simp
      with_reducible rfl
    rotate_left
    · simp only [putAll, Act.put, List.setIfInBounds_toArray, List.set_cons_zero, List.set_cons_succ]
      rfl
    refine pure_ (i := 11) (N := some 42) (v := ?_) (a' := ?_) #[true, true, true, true, true, true, true, true, true, true, true, true, false, false, false, false, false] rfl rfl (by kernel_rfl) (fun _ _ _ h => h) (Or.inl ⟨by rfl, ?_⟩) ?_ ?_
    rotate_left
    · intro w'
      go_simp
      with_reducible rfl
    rotate_left
    · simp only [putAll, Act.put, List.setIfInBounds_toArray, List.set_cons_zero, List.set_cons_succ]
      rfl
    refine pure_ (i := 12) (N := some 43) (v := ?_) (a' := ?_) #[true, true, true, true, true, true, true, true, true, true, true, true, true, false, false, false, false] rfl rfl (by kernel_rfl) (fun _ _ _ h => h) (Or.inl ⟨by rfl, ?_⟩) ?_ ?_
    rotate_left
    · intro w'
      go_simp
      with_reducible rfl
    rotate_left
    · simp only [putAll, Act.put, List.setIfInBounds_toArray, List.set_cons_zero, List.set_cons_succ]
      rfl
    refine one_ (i := 13) (N := some 6) #[true, true, true, true, true, true, true, true, true, true, true, true, true, true, false, false, false] rfl rfl (by kernel_rfl) (by decide) (fun K hK => ?_)
    refine value_ (v := .pointer (some ⟨w2.heap.size, 0, none⟩)) (w1 := w2.alloc (.cells #[.int .i64 0, .int .i64 0, .int .i64 0, .int .i64 0, .int .i64 0, .int .u64 0] 48)) (by rfl) rfl (by go_simp) ?_
    have hSa := hS2.below (below_alloc (Below.refl _ _) (.cells #[.int .i64 0, .int .i64 0, .int .i64 0, .int .i64 0, .int .i64 0, .int .u64 0] 48))
    refine hK.out _ _ ⟨(blk_cell (hSa).cell 1).trans rfl, (blk_cell (hSa).cell 2).trans rfl, (blk_cell (hSa).cell 3).trans rfl, (blk_cell (hSa).cell 4).trans rfl, (blk_cell (hSa).cell 5).trans rfl, (blk_cell (hSa).cell 6).trans rfl, (blk_cell (hSa).cell 7).trans rfl⟩ (fun hHeld => ?_)
    clear hK K
    refine norm_ ?_ (hcont w2.heap.size _ ⟨hSa, below_alloc hR2 _, blk_new w2 _, Nat.ne_of_lt hS2.lt, fun hh => Nat.lt_irrefl _ (hS2.book.2.1 _ hh), hR2.size⟩)
    simp only [putAll, Act.put, List.setIfInBounds_toArray, List.set_cons_zero, List.set_cons_succ]
  · refine value_ (v := .pointer (some ⟨wd.heap.size, 0, none⟩)) (w1 := wd.alloc (.cells #[.int .i64 0, .int .i64 0, .int .i64 0, .int .i64 0, .int .i64 0, .int .u64 0] 48)) (by rfl) rfl (by go_simp) ?_
    have hSa := H.out.below (below_alloc (Below.refl _ _) (.cells #[.int .i64 0, .int .i64 0, .int .i64 0, .int .i64 0, .int .i64 0, .int .u64 0] 48))
    refine hK.out _ _ ⟨(blk_cell (hSa).cell 1).trans rfl, (blk_cell (hSa).cell 2).trans rfl, (blk_cell (hSa).cell 3).trans rfl, (blk_cell (hSa).cell 4).trans rfl, (blk_cell (hSa).cell 5).trans rfl, (blk_cell (hSa).cell 6).trans rfl, (blk_cell (hSa).cell 7).trans rfl⟩ (fun hHeld => ?_)
    clear hK K
    refine norm_ (a' := ?_) ?_ ?_
    rotate_left
    · show Act.put _ (some 6) _ = _
      simp only [putAll, Act.put, List.setIfInBounds_toArray, List.set_cons_zero, List.set_cons_succ]
      rfl
    refine one_ (i := 8) (N := some 40) #[true, true, true, true, true, true, true, true, true, false, false, false, false, true, false, false, false] rfl rfl (by kernel_rfl) (by decide) (fun K hK => ?_)
    refine call_ 35 #[.agg #[.int .i64 1, .int .i64 p, .int .i64 0, .int .i64 0, .int .i64 0, .int .u64 0], .pointer (some ⟨kb, 0, none⟩)] (by rfl) rfl (by go_simp) ?_
    refine (HTK.out _).mono ?_
    rintro e w2 ⟨rfl, hb2⟩
    refine ⟨.tuple #[.int .i64 p, .agg #[.int .i64 1, .int .i64 (p + 1), .int .i64 0, .int .i64 0, .int .i64 0, .int .u64 0], .int .i64 0], rfl, ?_⟩
    have hS2 := hSa.below hb2
    have hR2 := below_step (below_alloc HRW.out (.cells #[.int .i64 0, .int .i64 0, .int .i64 0, .int .i64 0, .int .i64 0, .int .u64 0] 48)) hb2
    refine hK.out _ _ ⟨(blk_cell (hS2).cell 1).trans rfl, (blk_cell (hS2).cell 2).trans rfl, (blk_cell (hS2).cell 3).trans rfl, (blk_cell (hS2).cell 4).trans rfl, (blk_cell (hS2).cell 5).trans rfl, (blk_cell (hS2).cell 6).trans rfl, (blk_cell (hS2).cell 7).trans rfl⟩ (fun hHeld => ?_)
    clear hK K
    refine norm_ (a' := ?_) ?_ ?_
    rotate_left
    · show Act.put _ (some 40) _ = _
      simp only [putAll, Act.put, List.setIfInBounds_toArray, List.set_cons_zero, List.set_cons_succ]
      rfl
    refine pure_ (i := 9) (N := some 31) (v := ?_) (a' := ?_) #[true, true, true, true, true, true, true, true, true, true, false, false, false, true, false, false, false] rfl rfl (by kernel_rfl) (fun _ _ _ h => h) (Or.inl ⟨by rfl, ?_⟩) ?_ ?_
    rotate_left
    · intro w'
      go_simp
      with_reducible rfl
    rotate_left
    · simp only [putAll, Act.put, List.setIfInBounds_toArray, List.set_cons_zero, List.set_cons_succ]
      rfl
    refine pure_ (i := 10) (N := some 41) (v := ?_) (a' := ?_) #[true, true, true, true, true, true, true, true, true, true, true, false, false, true, false, false, false] rfl rfl (by kernel_rfl) (fun _ _ _ h => h) (Or.inl ⟨by rfl, ?_⟩) ?_ ?_
    rotate_left
    · intro w'
      go_simp
      with_reducible rfl
    rotate_left
    · simp only [putAll, Act.put, List.setIfInBounds_toArray, List.set_cons_zero, List.set_cons_succ]
      rfl
    refine pure_ (i := 11) (N := some 42) (v := ?_) (a' := ?_) #[true, true, true, true, true, true, true, true, true, true, true, true, false, true, false, false, false] rfl rfl (by kernel_rfl) (fun _ _ _ h => h) (Or.inl ⟨by rfl, ?_⟩) ?_ ?_
    rotate_left
    · intro w'
      go_simp
      with_reducible rfl
    rotate_left
    · simp only [putAll, Act.put, List.setIfInBounds_toArray, List.set_cons_zero, List.set_cons_succ]
      rfl
    refine pure_ (i := 12) (N := some 43) (v := ?_) (a' := ?_) #[true, true, true, true, true, true, true, true, true, true, true, true, true, true, false, false, false] rfl rfl (by kernel_rfl) (fun _ _ _ h => h) (Or.inl ⟨by rfl, ?_⟩) ?_ ?_
    rotate_left
    · intro w'
      go_simp
      with_reducible rfl
    rotate_left
    · simp only [putAll, Act.put, List.setIfInBounds_toArray, List.set_cons_zero, List.set_cons_succ]
      rfl
    refine norm_ ?_ (hcont wd.heap.size _ ⟨hS2, hR2, blk_below (blk_new wd _) hb2, Nat.ne_of_lt H.out.lt, fun hh => Nat.lt_irrefl _ (H.out.book.2.1 _ hh), HRW.out.size⟩)
    simp only [putAll, Act.put, List.setIfInBounds_toArray, List.set_cons_zero, List.set_cons_succ]
end
end Go.Proofs.YtonbipaajhokfaaGreatDoor
end
section
set_option linter.unusedVariables false
set_option linter.unusedSimpArgs false
namespace Go.Proofs.YtonbipaajhokfaaGreatDoor
open Go.RowKit Go.Proofs.YtonbipaajhokfaaGreatDoorW.PrintWords Go.Proofs.YtonbipaajhokfaaGreatDoorW.PrintLast Go.Proofs.YtonbipaajhokfaaGreatDoorW.PrintMore
abbrev cel0 : Cel := (0, ⟨#[]⟩, 0)
theorem partsOf_le {n : Nat} (h : n ≤ 5000) : partsOf n ≤ 23 := by unfold partsOf parts; split <;> omega
theorem flat_le : ∀ (l : List (List Int)), (∀ x ∈ l, x.length ≤ 23) → l.flatten.length ≤ 23 * l.length
  | [], _ => by simp
  | a :: r, h => by
    have h1 := flat_le r (fun x hx => h x (by simp [hx]))
    have h2 := h a (by simp)
    simp only [List.flatten_cons, List.length_append, List.length_cons]
    omega
/-- The chains of the values vs on a shelf of 300 pages of which none was freed. -/
structure Chains (s : Sh) (cs : List Cel) (vs : List (List UInt8)) (nss : List (List Int)) (p : Int) : Prop where
  good : Good 300 s nss.flatten p 0
  ok : ShOk s
  lc : cs.length = vs.length
  ln : nss.length = vs.length
  each : ∀ j, j < vs.length → Means (readB s.f) (cs.getD j cel0) (vs.getD j []) (nss.getD j [])
  short : ∀ j, j < vs.length → (vs.getD j []).length ≤ 5000
theorem Chains.start : Chains (Sh.start 300) [] [] [] 1 :=
  ⟨Good.start (by decide) (by decide), ShOk.start (by decide) (by decide), rfl, rfl, fun j h => absurd h (by simp), fun j h => absurd h (by simp)⟩
section
variable {s : Sh} {cs : List Cel} {vs : List (List UInt8)} {nss : List (List Int)} {p : Int}
theorem getD_left {α : Type} {l : List α} {j : Nat} (h : j < l.length) (r : List α) (z : α) : (l ++ r).getD j z = l.getD j z := by
  rw [List.getD_eq_getElem?_getD, List.getD_eq_getElem?_getD, List.getElem?_append_left h]
theorem getD_last {α : Type} (l : List α) (x z : α) {j : Nat} (h : j = l.length) : (l ++ [x]).getD j z = x := by
  subst h; simp [List.getD_eq_getElem?_getD]
theorem mem_getD {α : Type} {l : List α} {j : Nat} (h : j < l.length) (z : α) : l.getD j z ∈ l := by
  rw [List.getD_eq_getElem?_getD, List.getElem?_eq_getElem h]; exact List.getElem_mem h
theorem Chains.few (h : Chains s cs vs nss p) : ∀ x ∈ nss, x.length ≤ 23 := by
  intro x hx
  obtain ⟨j, hj, e⟩ := List.getElem_of_mem hx
  have hj2 : j < vs.length := by rw [← h.ln]; exact hj
  have := (h.each j hj2).len
  rw [List.getD_eq_getElem?_getD (l := nss), List.getElem?_eq_getElem hj, Option.getD_some, e] at this
  rw [this]
  exact partsOf_le (h.short j hj2)
theorem Chains.small (h : Chains s cs vs nss p) : nss.flatten.length ≤ 23 * vs.length := by rw [← h.ln]; exact flat_le _ h.few
theorem Chains.step (ks mb : Nat) (h : Chains s cs vs nss p) {v : List UInt8} (hv : v.length ≤ 5000) (hn : vs.length < 6) :
    ∃ s' c ns p', (shPg ks mb).cell s v = (s', c, 0) ∧ Chains s' (cs ++ [c]) (vs ++ [v]) (nss ++ [ns]) p' := by
  have hs := h.small
  have hp := partsOf_le hv
  obtain ⟨s', c, ns, p', L', a1, a2, a3, a4, a5, a6⟩ := cell_good ks mb h.good hv (by omega)
  have e0 : L' = 0 := by omega
  subst e0
  have hlc := h.lc
  have hln := h.ln
  refine ⟨s', c, ns, p', a1, ?_, ?_, by simp [hlc], by simp [hln], fun j hj => ?_, fun j hj => ?_⟩
  · rw [List.flatten_append]; simpa using a2
  · have := (shPg ks mb).ok_cell v h.ok
    rw [a1] at this
    exact this
  · rw [List.length_append, List.length_singleton] at hj
    by_cases e : j < vs.length
    · rw [getD_left (by omega), getD_left e, getD_left (by omega)]
      exact (h.each j e).keep (fun y hy => a5 y (List.mem_flatten.2 ⟨_, mem_getD (by omega) _, hy⟩))
    · rw [getD_last cs c _ (by omega), getD_last vs v _ (by omega), getD_last nss ns _ (by omega)]
      exact a3
  · rw [List.length_append, List.length_singleton] at hj
    by_cases e : j < vs.length
    · rw [getD_left e]; exact h.short j e
    · rw [getD_last vs v _ (by omega)]; exact hv
theorem Chains.hd (h : Chains s cs vs nss p) : s.hd.spare = 0 ∧ s.hd.pages = p ∧ 1 ≤ p ∧ p ≤ 300 := by
  obtain ⟨t, e⟩ := h.good.pages
  have := h.good.sum
  rw [e]
  exact ⟨rfl, rfl, by omega, by omega⟩
end
end Go.Proofs.YtonbipaajhokfaaGreatDoor
end
section
set_option linter.unusedVariables false
set_option linter.unusedSimpArgs false
namespace Go.Proofs.YtonbipaajhokfaaGreatDoor
open Go.RowKit Go.Proofs.YtonbipaajhokfaaGreatDoorW.PrintWords Go.Proofs.YtonbipaajhokfaaGreatDoorW.PrintLast Go.Proofs.YtonbipaajhokfaaGreatDoorW.PrintMore
theorem place_ge (N : List Int) (n : Int) : -1 ≤ placeOf N n := (firstAt_range (eqB n) N).1
theorem place_cons (x : Int) (N : List Int) (n : Int) : placeOf (x :: N) n = if x = n then 0 else (if placeOf N n = -1 then -1 else placeOf N n + 1) := by
  show (if eqB n x = true then 0 else if firstAt (eqB n) N = -1 then -1 else firstAt (eqB n) N + 1) = _
  by_cases e : x = n
  · rw [if_pos e]; exact if_pos (decide_eq_true e)
  · rw [if_neg e]; exact if_neg (by unfold eqB; simp [e])
theorem getB_cons (x : Int) (N : List Int) (d : ByteArray) (D : List ByteArray) (n : Int) : getB (x :: N) (d :: D) n = if x = n then d else getB N D n := by
  have h := place_ge N n
  unfold getB
  rw [place_cons]
  by_cases e : x = n
  · rw [if_pos e, if_pos e, if_neg (by decide)]; rfl
  · rw [if_neg e, if_neg e]
    by_cases e2 : placeOf N n = -1
    · rw [if_pos e2, if_pos (by decide), if_pos (by omega)]
    · rw [if_neg e2, if_neg (by omega), if_neg (by omega), show (placeOf N n + 1).toNat = (placeOf N n).toNat + 1 by omega]
      rfl
theorem putN_cons (x : Int) (N : List Int) (n : Int) : putN (x :: N) n = if x = n then x :: N else x :: putN N n := by
  have h := place_ge N n
  unfold putN
  rw [place_cons]
  by_cases e : x = n
  · rw [if_pos e, if_pos e, if_neg (by decide)]
  · rw [if_neg e, if_neg e]
    by_cases e2 : placeOf N n = -1
    · rw [if_pos e2, if_pos (by decide), if_pos (by omega)]; rfl
    · rw [if_neg e2, if_neg (by omega), if_neg (by omega)]
theorem putD_cons (x : Int) (N : List Int) (c : ByteArray) (D : List ByteArray) (n : Int) (d : ByteArray) : putD (x :: N) (c :: D) n d = if x = n then d :: D else c :: putD N D n d := by
  have h := place_ge N n
  unfold putD
  rw [place_cons]
  by_cases e : x = n
  · rw [if_pos e, if_pos e, if_neg (by decide)]; rfl
  · rw [if_neg e, if_neg e]
    by_cases e2 : placeOf N n = -1
    · rw [if_pos e2, if_pos (by decide), if_pos (by omega)]; rfl
    · rw [if_neg e2, if_neg (by omega), if_neg (by omega), show (placeOf N n + 1).toNat = (placeOf N n).toNat + 1 by omega]
      rfl
theorem getB_put : ∀ (N : List Int) (D : List ByteArray) (n : Int) (d : ByteArray) (m : Int), N.length = D.length → getB (putN N n) (putD N D n d) m = if m = n then d else getB N D m
  | [], D, n, d, m, h => by
    have : D = [] := by cases D; rfl; cases h
    subst this
    rw [show putN [] n = [n] from rfl, show putD [] [] n d = [d] from rfl, getB_cons]
    by_cases e : n = m
    · rw [if_pos e, if_pos e.symm]
    · rw [if_neg e, if_neg (fun h => e h.symm)]
  | x :: N, [], n, d, m, h => by cases h
  | x :: N, c :: D, n, d, m, h => by
    have ih := getB_put N D n d m (by simpa using h)
    rw [putN_cons, putD_cons, getB_cons]
    by_cases e : x = n
    · rw [if_pos e, if_pos e, getB_cons]
      by_cases e2 : x = m
      · rw [if_pos e2, if_pos (by omega)]
      · rw [if_neg e2, if_neg (by omega), if_neg e2]
    · rw [if_neg e, if_neg e, getB_cons, ih]
      by_cases e2 : x = m
      · rw [if_pos e2, if_neg (by omega), if_pos e2]
      · rw [if_neg e2, if_neg e2]
theorem putN_len (N : List Int) (n : Int) : (putN N n).length ≤ N.length + 1 := by
  unfold putN; split <;> simp
abbrev flatSh (lim p : Int) (f : Int → Option ByteArray) : Sh := ⟨lim, ⟨1, p, 0, 0, 0, 0⟩, f, -1⟩
theorem new_flat (mb : Nat) {lim p : Int} {f : Int → Option ByteArray} (h1 : p < lim) (h2 : lim ≤ 4096) : (flatSh lim p f).new mb = (flatSh lim (p + 1) (upd f p (bs blankL)), p, 0) := by
  have htk := take_none (mapShop mb) f ⟨1, p, 0, 0, 0, 0⟩ rfl (by dsimp only; omega)
  unfold Sh.new
  dsimp only
  rw [if_neg (by decide), if_neg (fun hh => by have := hh.2; omega), htk]
  dsimp only
  rw [if_neg (by decide)]
  rfl
theorem beg_flat {lim p : Int} {f : Int → Option ByteArray} {n : Int} (h1 : 1 ≤ n) (h2 : n < p) : (flatSh lim p f).beg n = 0 := by
  unfold Sh.beg
  dsimp only
  rw [if_neg (by decide), if_neg (by omega)]
theorem put_flat {lim p : Int} {f : Int → Option ByteArray} {n : Int} {d : ByteArray} (h1 : 1 ≤ n) (h2 : n < p) (hd : d.size = 232) : (flatSh lim p f).put n d = (flatSh lim p (upd f n d), 0) := by
  unfold Sh.put
  rw [beg_flat h1 h2, if_neg (by decide), if_neg (by rw [hd]; decide)]
  rfl
theorem flat_dec {lim p : Int} {f : Int → Option ByteArray} : (flatSh lim p f).dec = flatSh lim p f := rfl
theorem flat_bd {lim p : Int} {f : Int → Option ByteArray} (h1 : 0 ≤ p) (h2 : p ≤ 4096) : (flatSh lim p f).bd := ⟨h1, h2, Int.le_refl _, show (0 : Int) ≤ 4096 by decide⟩
structure Pair (ks mb kr kb B : Nat) (w0 w : World) (lim p : Int) (f : Int → Option ByteArray) (G : Nat → Prop) (N : List Int) (D : List ByteArray) : Prop where
  sh : ShAt ks mb w (flatSh lim p f)
  ref : RefAt w G kr kb lim p N D
  apart : ∀ k, RF G kr k → k ≠ ks ∧ k ≠ mb ∧ B ≤ k
  ks_ : B ≤ ks
  mb_ : B ≤ mb
  base : Below B w0 w
  size : B ≤ w.heap.size
  same : ∀ n, 1 ≤ n → n < p → readB f n = getB N D n
  full : FullM f
section
variable {ks mb kr kb B : Nat} {w0 w w' : World} {lim p p' : Int} {f f' : Int → Option ByteArray} {G G' : Nat → Prop} {N N' : List Int} {D D' : List ByteArray}
theorem Pair.notF (h : Pair ks mb kr kb B w0 w lim p f G N D) : ∀ k, RF G kr k → ¬ ShF ks mb k := fun k hk e => by
  rcases e with e | e
  · exact (h.apart k hk).1 e
  · exact (h.apart k hk).2.1 e
theorem Pair.below (h : Pair ks mb kr kb B w0 w lim p f G N D) (hb : Below w.heap.size w w') : Pair ks mb kr kb B w0 w' lim p f G N D :=
  ⟨h.sh.below hb, h.ref.below hb, h.apart, h.ks_, h.mb_, h.base.trans (hb.mono h.size), Nat.le_trans h.size hb.size, h.same, h.full⟩
/-- The program's shelf has been turned. -/
theorem Pair.frS (h : Pair ks mb kr kb B w0 w lim p f G N D) (hf : Fr (ShF ks mb) w w') : RefAt w' G kr kb lim p N D ∧ Below B w0 w' ∧ B ≤ w'.heap.size :=
  ⟨h.ref.fr hf h.notF, h.base.trans (hf.below (fun k hk => by rcases hk with e | e; rw [e]; exact h.ks_; rw [e]; exact h.mb_) h.size), Nat.le_trans h.size hf.size⟩
theorem ShAt.frR {s : Sh} (h : ShAt ks mb w s) (hf : Fr (RF G kr) w w') (ha : ∀ k, RF G kr k → k ≠ ks ∧ k ≠ mb ∧ B ≤ k) : ShAt ks mb w' s :=
  ⟨hf.blk h.1 (fun e => (ha ks e).1 rfl), h.2.keep (hf.block mb h.2.lt (fun e => (ha mb e).2.1 rfl))⟩
/-- The reference's shelf has been turned. -/
theorem Pair.frR (h : Pair ks mb kr kb B w0 w lim p f G N D) (hf : Fr (RF G kr) w w') : ShAt ks mb w' (flatSh lim p f) ∧ Below B w0 w' ∧ B ≤ w'.heap.size :=
  ⟨h.sh.frR hf h.apart, h.base.trans (hf.below (fun k hk => (h.apart k hk).2.2) h.size), Nat.le_trans h.size hf.size⟩
end
/-- A round of laid, ahead of the pages being put: both have a page more. -/
structure Half (ks mb kr kb B : Nat) (w0 w : World) (lim p q : Int) (f : Int → Option ByteArray) (G : Nat → Prop) (N : List Int) (D : List ByteArray) : Prop where
  sh : ShAt ks mb w (flatSh lim p f)
  ref : RefAt w G kr kb lim q N D
  apart : ∀ k, RF G kr k → k ≠ ks ∧ k ≠ mb ∧ B ≤ k
  ks_ : B ≤ ks
  mb_ : B ≤ mb
  base : Below B w0 w
  size : B ≤ w.heap.size
section
variable {ks mb kr kb B : Nat} {w0 w w' : World} {lim p q p' q' : Int} {f f' : Int → Option ByteArray} {G G' : Nat → Prop} {N N' : List Int} {D D' : List ByteArray}
theorem Pair.half (h : Pair ks mb kr kb B w0 w lim p f G N D) : Half ks mb kr kb B w0 w lim p p f G N D := ⟨h.sh, h.ref, h.apart, h.ks_, h.mb_, h.base, h.size⟩
theorem Half.below (h : Half ks mb kr kb B w0 w lim p q f G N D) (hb : Below w.heap.size w w') : Half ks mb kr kb B w0 w' lim p q f G N D :=
  ⟨h.sh.below hb, h.ref.below hb, h.apart, h.ks_, h.mb_, h.base.trans (hb.mono h.size), Nat.le_trans h.size hb.size⟩
theorem Half.frS (h : Half ks mb kr kb B w0 w lim p q f G N D) (hs : ShAt ks mb w' (flatSh lim p' f')) (hf : Fr (ShF ks mb) w w') : Half ks mb kr kb B w0 w' lim p' q f' G N D :=
  ⟨hs, h.ref.fr hf (fun k hk e => by rcases e with e | e; exact (h.apart k hk).1 e; exact (h.apart k hk).2.1 e), h.apart, h.ks_, h.mb_, h.base.trans (hf.below (fun k hk => by rcases hk with e | e; rw [e]; exact h.ks_; rw [e]; exact h.mb_) h.size), Nat.le_trans h.size hf.size⟩
theorem Half.frR (h : Half ks mb kr kb B w0 w lim p q f G N D) (hr : RefAt w' G' kr kb lim q' N' D') (hG : ∀ k, G' k → G k ∨ w.heap.size ≤ k) (hf : Fr (RF G kr) w w') : Half ks mb kr kb B w0 w' lim p q' f G' N' D' :=
  ⟨h.sh.frR hf h.apart, hr, fun k hk => by
    rcases hk with e | e
    · exact h.apart k (Or.inl e)
    · rcases hG k e with e | e
      · exact h.apart k (Or.inr e)
      · have h1 := h.sh.lt
        have h2 := h.sh.2.lt
        have h3 := h.size
        exact ⟨by omega, by omega, by omega⟩, h.ks_, h.mb_, h.base.trans (hf.below (fun k hk => (h.apart k hk).2.2) h.size), Nat.le_trans h.size hf.size⟩
theorem Half.pair (h : Half ks mb kr kb B w0 w lim p p f G N D) (hs : ∀ n, 1 ≤ n → n < p → readB f n = getB N D n) (hf : FullM f) : Pair ks mb kr kb B w0 w lim p f G N D :=
  ⟨h.sh, h.ref, h.apart, h.ks_, h.mb_, h.base, h.size, hs, hf⟩
end
set_option maxHeartbeats 4000000 in
set_option maxRecDepth 100000 in
theorem laid_calls (Ax : Option Addr) (cx : Nat) (vs : List ByteArray) (w : World) (hvs : Kd.string.C w Ax vs.length vs) :
    Calls Tryz.prog 8 #[.slice Ax vs.length cx] w fun e w' => ∃ ks mb kr kb f G N D, ∃ p : Nat, e = .returned (.tuple #[.pointer (some ⟨ks, 0, none⟩), .pointer (some ⟨kr, 0, none⟩)]) ∧ 1 ≤ p ∧ p ≤ 41 ∧ Pair ks mb kr kb w.heap.size w w' 60 (p : Int) f G N D := by
  have hmv := Kd.C_max hvs
  have HVS := Aside0.mk hvs
  clear hvs
  go_enter Tryz.func8, Tryz.ntmps8
  go_wp2_with fail
  refine (shelfNew_calls 60 w (by decide) (by decide)).mono ?_
  rintro e w1 ⟨ks, mb, rfl, hS, hk1, hk2, hB1⟩
  go_wp2_with fail
  refine (refNew_calls 60 w1 (by decide) (by decide)).mono ?_
  rintro e w2 ⟨kr, kb, rfl, hR, hk3, hk4, hB2⟩
  have hsz := hB1.size
  have HP := Aside0.mk (show Pair ks mb kr kb w.heap.size w w2 60 1 (fun _ => none) (fun k => k = kb) [] [] from
    ⟨hS.below hB2, hR, fun k hk => by
      have h1 := hS.lt
      have h2 := hS.2.lt
      rcases hk with e | e
      · subst e; exact ⟨by omega, by omega, by omega⟩
      · subst e; exact ⟨by omega, by omega, by omega⟩, hk1, hk2, hB1.trans (hB2.mono hB1.size), Nat.le_trans hB1.size hB2.size, fun n h1 h2 => by omega, fun n d h => by cases h⟩)
  clear hS hR hk1 hk2 hk3 hk4 hB1 hB2 hsz
  go_wp2_with fail
  go_loopw [6] (fun i wr => ∃ (j : Nat) (f : Int → Option ByteArray) (G : Nat → Prop) (N : List Int) (D : List ByteArray), j ≤ vs.length ∧ j ≤ 40 ∧ i = .int .i64 j ∧ N.length ≤ 2 * j ∧ Aside0 (Pair ks mb kr kb w.heap.size w wr 60 ((j : Int) + 1) f G N D)) (fun i _ => vs.length - (intOf i).toNat)
  case atStart => exact ⟨0, _, _, [], [], Nat.zero_le _, by decide, rfl, by decide, HP⟩
  case round =>
    clear HP
    obtain ⟨j, f, G, N, D, hj, hj2, rfl, hN, HP⟩ := hrel
    by_cases hlt : j < vs.length ∧ j < 40
    · obtain ⟨hlt, hlt2⟩ := hlt
      have t1 : decide ((j : Int) < (vs.length : Int)) = true := decide_eq_true (by omega)
      have t2 : decide ((j : Int) < 40) = true := decide_eq_true (by omega)
      have HRD := Aside0.mk (fun W (hW : Below w.heap.size w W) => Kd.at_string (Kd.C_below HVS.out hW) (j : Int) (by omega) (by omega))
      obtain ⟨x, hxd⟩ : ∃ x, x = rdOf ByteArray.empty vs (j : Int) := ⟨_, rfl⟩
      rw [← hxd] at HRD
      clear hxd
      obtain ⟨d, hd⟩ : ∃ d, d = fullL x.data.toList := ⟨_, rfl⟩
      have hds : (bs d).size = 232 := by rw [bs_size, hd]; exact fullL_length _
      have hfc := fun W => full_calls x W
      rw [← hd] at hfc
      have HFC := Aside0.mk hfc
      have HNW := Aside0.mk (fun W hW => shNew_calls ks mb (flatSh 60 ((j : Int) + 1) f) W hW (show (-1 : Int) ≤ 4096 by decide) (flat_bd (by omega) (by omega)))
      rw [new_flat mb (by omega) (by decide)] at HNW
      have HSP := Aside0.mk (fun W hW => shPut_calls ks mb (flatSh 60 ((j : Int) + 1 + 1) (upd f ((j : Int) + 1) (bs blankL))) ((j : Int) + 1) (bs d) W hW (show (-1 : Int) ≤ 4096 by decide))
      rw [put_flat (by omega) (by omega) hds] at HSP
      have hw1 : IntKind.i64.wrap ((j : Int) + 1) = (j : Int) + 1 := by rw [IntKind.wrap_i64]; omega
      have hw2 : wrap64 ((j : Int) + 1) = (j : Int) + 1 := by unfold wrap64; omega
      have HHF := Aside0.mk HP.out.half
      have HSM := Aside0.mk HP.out.same
      have HFU := Aside0.mk HP.out.full
      have HLN := Aside0.mk HP.out.ref.book.2.2.1
      clear hd hfc HP
      go_wp2_with fail
      refine (HNW.out _ HHF.out.sh).mono ?_
      rintro e w3 ⟨rfl, hs, hf⟩
      replace HHF := Aside0.mk (HHF.out.frS hs hf)
      clear hs hf HNW
      go_wp2_with fail
      refine (refMore_calls _ HHF.out.ref (by omega) (by omega) (by decide) (by omega)).mono ?_
      rintro e w4 ⟨rfl, G2, hr, hG, hf⟩
      have hN2 := putN_len N ((j : Int) + 1)
      have HB2 := Aside0.mk hr.book.2.2.1
      replace HHF := Aside0.mk (HHF.out.frR hr hG hf)
      clear hr hG hf
      obtain ⟨ad, hA, hx⟩ := HRD.out w4 HHF.out.base
      subst hA
      rw [Int.toNat_natCast] at hx
      replace HRD := Aside0.mk (fun W (hW : Below w.heap.size w W) => show W.cell? (ad.add j) = some (.string x) by
        obtain ⟨ad', e, h⟩ := HRD.out W hW
        injection e with e
        subst e
        rw [Int.toNat_natCast] at h
        exact h)
      go_wp2_with fail
      clear hx
      refine (HFC.out _).mono ?_
      rintro e w5 ⟨rfl, hb⟩
      replace HHF := Aside0.mk (HHF.out.below hb)
      clear hb
      go_wp2_with fail
      refine (HSP.out _ HHF.out.sh).mono ?_
      rintro e w6 ⟨rfl, hs, hf⟩
      replace HHF := Aside0.mk (HHF.out.frS hs hf)
      clear hs hf HSP
      have hx := HRD.out w6 HHF.out.base
      go_wp2_with fail
      clear hx
      refine (HFC.out _).mono ?_
      rintro e w7 ⟨rfl, hb⟩
      replace HHF := Aside0.mk (HHF.out.below hb)
      clear hb
      go_wp2_with fail
      refine (refPut_calls ((j : Int) + 1) (bs d) _ HHF.out.ref (by omega) (by omega) hds (by omega)).mono ?_
      rintro e w8 ⟨rfl, hr, hf⟩
      have hN3 := putN_len (putN N ((j : Int) + 1)) ((j : Int) + 1)
      replace HHF := Aside0.mk (HHF.out.frR hr (fun k hk => hk.elim Or.inl (fun h => Or.inr h.1)) hf)
      clear hr hf
      have HP := Aside0.mk (HHF.out.pair (fun n h1 h2 => by
        rw [upd_look, upd_look, getB_put _ _ _ _ _ HB2.out, getB_put _ _ _ _ _ HLN.out]
        by_cases e : n = (j : Int) + 1
        · rw [if_pos e, if_pos e]
        · rw [if_neg e, if_neg e, if_neg e, if_neg e]
          exact HSM.out n h1 (by omega)) ((HFU.out.upd _ blankL_size).upd _ hds))
      clear HHF
      rw [show (j : Int) + 1 + 1 = ((j + 1 : Nat) : Int) + 1 by omega] at HP
      go_wp2
      go_roundw
      case rel => exact ⟨j + 1, _, _, _, _, by omega, by omega, by go_num, by omega, HP⟩
      case measure => simp only [intOf]; omega
    · by_cases h1 : j < vs.length
      · have t1 : decide ((j : Int) < (vs.length : Int)) = true := decide_eq_true (by omega)
        have t2 : decide ((j : Int) < 40) = false := decide_eq_false (fun h2 => hlt ⟨h1, by omega⟩)
        have h2 : ¬ j < 40 := fun h2 => hlt ⟨h1, h2⟩
        have h3 : decide (j < vs.length) = true := decide_eq_true h1
        have h4 : decide (j < 40) = false := decide_eq_false h2
        clear hlt
        go_wp2
        go_ret2
        exact ⟨ks, mb, kr, kb, f, G, N, D, j + 1, rfl, by omega, by omega, by rw [show ((j + 1 : Nat) : Int) = (j : Int) + 1 by omega]; exact HP.out⟩
      · have t1 : decide ((j : Int) < (vs.length : Int)) = false := decide_eq_false (by omega)
        have h3 : decide (j < vs.length) = false := decide_eq_false h1
        clear hlt
        go_wp2
        go_ret2
        exact ⟨ks, mb, kr, kb, f, G, N, D, j + 1, rfl, by omega, by omega, by rw [show ((j + 1 : Nat) : Int) = (j : Int) + 1 by omega]; exact HP.out⟩
end Go.Proofs.YtonbipaajhokfaaGreatDoor
end
section
namespace Go.Proofs.YtonbipaajhokfaaGreatDoor.PChainReads
open Go.RowKit Go.Proofs.YtonbipaajhokfaaGreatDoorW.PrintWords Go.Proofs.YtonbipaajhokfaaGreatDoorW.PrintLast Go.Proofs.YtonbipaajhokfaaGreatDoorW.PrintMore
attribute [local go_sem] max2_int min2_int max_two min_two max_three min_three max_four min_four   -- for this text's walks alone
set_option linter.unusedVariables false
set_option linter.unusedSimpArgs false
def cahierref11_Good.j0 : Nat → Bool → Int → ByteArray → Int → Option (Bool)
  | 0, _, _, _, _ => none
  | k + 1, x10, x298000, x298001, x298002 => if x10 = true then (some false) else (if x298000 ≤ 40 then (if (x298001.size : Int) = x298000 then (some (x298002 == 0)) else (some false)) else (if x298001.toList = ([] : List UInt8) then (if x298002 ≥ 1 then (some (decide (x298002 ≤ 4095))) else (some false)) else (some false)))
def cahierref11_Good.f (k : Nat) (a0_0 : Int) (a0_1 : ByteArray) (a0_2 : Int) : Option (Bool) := if a0_0 < 0 then (cahierref11_Good.j0 k true a0_0 a0_1 a0_2) else (cahierref11_Good.j0 k (decide (a0_0 > 5000)) a0_0 a0_1 a0_2)
theorem cahierref11_Good.mono_l : ∀ k, (∀ y0 y1 y2 y3, LeO (cahierref11_Good.j0 k y0 y1 y2 y3) (cahierref11_Good.j0 (k + 1) y0 y1 y2 y3))
  | 0 => fun _ _ _ _ r h => by simp [cahierref11_Good.j0] at h
  | k + 1 => by
    have ih0 := cahierref11_Good.mono_l k
    · intro y0 y1 y2 y3
      unfold cahierref11_Good.j0
      repeat' first
      | (with_reducible exact ih0 _ _ _ _)
      | (with_reducible exact LeO.refl _)
      | (with_reducible exact LeO.none _)
      | (with_reducible refine LeO.ite ?_ ?_)
      | (with_reducible refine LeO.bind ?_ (fun _ => ?_))
      | exact ih0 _ _ _ _
      | exact LeO.none _
      | refine LeO.ite ?_ ?_
      | refine LeO.bind ?_ (fun _ => ?_)
theorem cahierref11_Good.mono : ∀ a0 a1 a2 k, LeO (cahierref11_Good.f k a0 a1 a2) (cahierref11_Good.f (k + 1) a0 a1 a2) := by
  intro a0 a1 a2 k
  have ih0 := cahierref11_Good.mono_l k
  unfold cahierref11_Good.f
  repeat' first
      | (with_reducible exact ih0 _ _ _ _)
      | (with_reducible exact LeO.refl _)
      | (with_reducible exact LeO.none _)
      | (with_reducible refine LeO.ite ?_ ?_)
      | (with_reducible refine LeO.bind ?_ (fun _ => ?_))
      | exact ih0 _ _ _ _
      | exact LeO.none _
      | refine LeO.ite ?_ ?_
      | refine LeO.bind ?_ (fun _ => ?_)
set_option maxHeartbeats 8000000 in
set_option maxRecDepth 100000 in
theorem cahierref11_Good.calls (k : Nat) (a0_0 : Int) (a0_1 : ByteArray) (a0_2 : Int) (r : Bool) (w : World) (h : cahierref11_Good.f k a0_0 a0_1 a0_2 = some r) :
    Calls Tryz.prog 15 #[.agg #[.int .i64 a0_0, .string a0_1, .int .i64 a0_2]] w fun e w' => e = .returned (.bool r) ∧ Below w.heap.size w w' := by
  have hu24 := Tryz.underlying24
  have HB := Aside0.mk (Below.refl w.heap.size w)
  have H : (if a0_0 < 0 then (cahierref11_Good.j0 k true a0_0 a0_1 a0_2) else (cahierref11_Good.j0 k (decide (a0_0 > 5000)) a0_0 a0_1 a0_2)) = some r := h
  clear h
  have HC2 := Aside0.mk H
  clear H
  go_enter Tryz.func15, Tryz.ntmps15
  go_upto_region 1 with (first | ((with_reducible refine gate_dst (N := 1) rfl ?_); refine box_event ?hg (N := 1) ?hd (cs := #[.int .i64 a0_0, .string a0_1, .int .i64 a0_2]) (t := 24) ?hr ?_; (case hd => rfl); (case hg => rfl); (case hr => first | (go_simp; done) | (go_simp; rfl)); intro gb297 hg w3 hbox hb; have n0_ := Aside0.mk (below_step (by repeat (first | (with_reducible first | exact HB.out | apply below_alloc | apply pw_below_drewN | apply below_drew1) | exact HB.out)) hb); have n1_ := Aside0.mk (hbox); have n2_ := Aside0.mk ((by rw [hg]; exact (below_size (by repeat (first | (with_reducible first | exact HB.out | apply below_alloc | apply pw_below_drewN | apply below_drew1) | exact HB.out))) : w.heap.size ≤ gb297)); have n3_ := Aside0.mk ((by rw [hg]; exact (below_size (by repeat (first | (with_reducible first | exact HB.out | apply below_alloc | apply pw_below_drewN | apply below_drew1) | exact HB.out))) : w.heap.size ≤ gb297)); clear HB; have HB := n0_; have BK297 := n1_; have GW297 := n2_; have GE297 := n3_; clear n0_ n1_ n2_ n3_; clear hb hbox hg))
  (try simp only [Act.put, List.setIfInBounds_toArray, List.set_cons_zero, List.set_cons_succ])
  go_cut [10] (fun v10 wc => ∃ (kq : Nat) (x10_1 : Bool), v10 = .bool x10_1 ∧ Aside0 (cahierref11_Good.j0 kq x10_1 a0_0 a0_1 a0_2 = some r) ∧ Aside0 (kq ≤ k) ∧ Aside0 (wc.heap[gb297]? = some (.cells #[.int .i64 a0_0, .string a0_1, .int .i64 a0_2] 24 (0, 0))) ∧ Aside0 (Below w.heap.size w wc))
  case first =>
    have H := HC2.out
    clear HC2
    by_cases c4 : a0_0 < 0
    · rw [if_pos c4] at H
      have c4b0 : decide (a0_0 < 0) = true := decide_eq_true c4
      clear c4
      (first | rw [c4b0] | (simp only [i64_w, i32_w]; rw [c4b0]) | skip)
      have H' := Aside0.mk H
      clear H
      have hcz5_0 : w3.cell? ⟨gb297, 0, none⟩ = some (.int .i64 a0_0) := (blk_cell BK297.out 0).trans rfl
      have hcz5_1 : w3.cell? ⟨gb297, 1, none⟩ = some (.string a0_1) := (blk_cell BK297.out 1).trans rfl
      have hcz5_2 : w3.cell? ⟨gb297, 2, none⟩ = some (.int .i64 a0_2) := (blk_cell BK297.out 2).trans rfl
      have hfz5_0 := blk_frozen BK297.out 0
      have hfz5_1 := blk_frozen BK297.out 1
      have hfz5_2 := blk_frozen BK297.out 2
      go_wp2
      go_meet
      case rel => exact ⟨_, (true), (by first | rfl | (simp; done) | (simp [*]; done)), H', ⟨by first | omega | exact Nat.le_refl _⟩, ⟨by (with_reducible repeat (first | refine blk_drewN ?_ _ | refine blk_drew ?_ | refine blk_alloc ?_ _)); exact BK297.out⟩, ⟨by repeat (first | (with_reducible first | exact HB.out | apply below_alloc | apply pw_below_drewN | apply below_drew1 | refine below_set ?_ GE297.out) | exact HB.out)⟩⟩
    · rw [if_neg c4] at H
      have c4b0 : decide (a0_0 < 0) = false := decide_eq_false c4
      clear c4
      (first | rw [c4b0] | (simp only [i64_w, i32_w]; rw [c4b0]) | skip)
      have H' := Aside0.mk H
      clear H
      have hcz6_0 : w3.cell? ⟨gb297, 0, none⟩ = some (.int .i64 a0_0) := (blk_cell BK297.out 0).trans rfl
      have hcz6_1 : w3.cell? ⟨gb297, 1, none⟩ = some (.string a0_1) := (blk_cell BK297.out 1).trans rfl
      have hcz6_2 : w3.cell? ⟨gb297, 2, none⟩ = some (.int .i64 a0_2) := (blk_cell BK297.out 2).trans rfl
      have hfz6_0 := blk_frozen BK297.out 0
      have hfz6_1 := blk_frozen BK297.out 1
      have hfz6_2 := blk_frozen BK297.out 2
      go_wp2
      go_meet
      case rel => exact ⟨_, (decide (a0_0 > 5000)), (by first | rfl | (simp; done) | (simp [*]; done)), H', ⟨by first | omega | exact Nat.le_refl _⟩, ⟨by (with_reducible repeat (first | refine blk_drewN ?_ _ | refine blk_drew ?_ | refine blk_alloc ?_ _)); exact BK297.out⟩, ⟨by repeat (first | (with_reducible first | exact HB.out | apply below_alloc | apply pw_below_drewN | apply below_drew1 | refine below_set ?_ GE297.out) | exact HB.out)⟩⟩
  case rest =>
    clear HC2
    try clear c1
    try clear p2
    try clear c4
    try clear c4b0
    try clear hcz5_0
    try clear hcz5_1
    try clear hcz5_2
    try clear hcz6_0
    try clear hcz6_1
    try clear hcz6_2
    try clear hfz5_0
    try clear hfz5_1
    try clear hfz5_2
    try clear hfz6_0
    try clear hfz6_1
    try clear hfz6_2
    obtain ⟨kq, x10_1, rfl, HA, HJ1, BK297, HB⟩ := hcut
    cases kq with
    | zero => exact absurd HA.out (by simp [cahierref11_Good.j0])
    | succ kj1 =>
      have H := HA.out
      clear HA
      simp only [cahierref11_Good.j0] at H
      by_cases c7 : x10_1 = true
      · subst c7
        have H1 : (some false) = some r := by rw [if_pos rfl] at H; exact H
        clear H
        have H := H1
        clear H1
        obtain rfl := Option.some.inj H
        go_wp2
        go_ret
        exact ⟨by first | rfl | (simp [errW_none, errW_some] <;> rfl) | (simp [*, errW_none, errW_some] <;> rfl), by repeat (first | (with_reducible first | exact HB.out | apply below_alloc | apply pw_below_drewN | apply below_drew1 | refine below_set ?_ GE297.out) | exact HB.out)⟩
      · replace c7 := Bool.eq_false_iff.mpr c7
        subst c7
        have H1 : (if a0_0 ≤ 40 then (if (a0_1.size : Int) = a0_0 then (some (a0_2 == 0)) else (some false)) else (if a0_1.toList = ([] : List UInt8) then (if a0_2 ≥ 1 then (some (decide (a0_2 ≤ 4095))) else (some false)) else (some false))) = some r := by rw [if_neg (show ¬ (false = true) by decide)] at H; exact H
        clear H
        have H := H1
        clear H1
        by_cases c8 : a0_0 ≤ 40
        · rw [if_pos c8] at H
          have c8b0 : decide (a0_0 ≤ 40) = true := decide_eq_true c8
          clear c8
          by_cases c9 : (a0_1.size : Int) = a0_0
          · rw [if_pos c9] at H
            have c9b0 : ((a0_1.size : Int) == a0_0) = true := beq_iff_eq.mpr c9
            have c9b1 : ((a0_1.size : Int) != a0_0) = false := bne_eq_false_iff_eq.mpr c9
            clear c9
            obtain rfl := Option.some.inj H
            have hcz10_0 : wc.cell? ⟨gb297, 0, none⟩ = some (.int .i64 a0_0) := (blk_cell BK297.out 0).trans rfl
            have hcz10_1 : wc.cell? ⟨gb297, 1, none⟩ = some (.string a0_1) := (blk_cell BK297.out 1).trans rfl
            have hcz10_2 : wc.cell? ⟨gb297, 2, none⟩ = some (.int .i64 a0_2) := (blk_cell BK297.out 2).trans rfl
            have hfz10_0 := blk_frozen BK297.out 0
            have hfz10_1 := blk_frozen BK297.out 1
            have hfz10_2 := blk_frozen BK297.out 2
            go_wp2
            go_ret
            exact ⟨by first | rfl | (simp [errW_none, errW_some] <;> rfl) | (simp [*, errW_none, errW_some] <;> rfl), by repeat (first | (with_reducible first | exact HB.out | apply below_alloc | apply pw_below_drewN | apply below_drew1 | refine below_set ?_ GE297.out) | exact HB.out)⟩
          · rw [if_neg c9] at H
            have c9b0 : ((a0_1.size : Int) == a0_0) = false := beq_eq_false_iff_ne.mpr c9
            have c9b1 : ((a0_1.size : Int) != a0_0) = true := bne_iff_ne.mpr c9
            obtain rfl := Option.some.inj H
            have hcz11_0 : wc.cell? ⟨gb297, 0, none⟩ = some (.int .i64 a0_0) := (blk_cell BK297.out 0).trans rfl
            have hcz11_1 : wc.cell? ⟨gb297, 1, none⟩ = some (.string a0_1) := (blk_cell BK297.out 1).trans rfl
            have hcz11_2 : wc.cell? ⟨gb297, 2, none⟩ = some (.int .i64 a0_2) := (blk_cell BK297.out 2).trans rfl
            have hfz11_0 := blk_frozen BK297.out 0
            have hfz11_1 := blk_frozen BK297.out 1
            have hfz11_2 := blk_frozen BK297.out 2
            go_wp2
            go_ret
            exact ⟨by first | rfl | (simp [errW_none, errW_some] <;> rfl) | (simp [*, errW_none, errW_some] <;> rfl), by repeat (first | (with_reducible first | exact HB.out | apply below_alloc | apply pw_below_drewN | apply below_drew1 | refine below_set ?_ GE297.out) | exact HB.out)⟩
        · rw [if_neg c8] at H
          have c8b0 : decide (a0_0 ≤ 40) = false := decide_eq_false c8
          clear c8
          by_cases c12 : a0_1.toList = ([] : List UInt8)
          · rw [if_pos c12] at H
            have c12b0 : (a0_1.toList == ([] : List UInt8)) = true := beq_iff_eq.mpr c12
            have c12b1 : (a0_1.toList != ([] : List UInt8)) = false := bne_eq_false_iff_eq.mpr c12
            clear c12
            by_cases c13 : a0_2 ≥ 1
            · rw [if_pos c13] at H
              have c13b0 : decide (1 ≤ a0_2) = true := decide_eq_true c13
              clear c13
              obtain rfl := Option.some.inj H
              have hcz14_0 : wc.cell? ⟨gb297, 0, none⟩ = some (.int .i64 a0_0) := (blk_cell BK297.out 0).trans rfl
              have hcz14_1 : wc.cell? ⟨gb297, 1, none⟩ = some (.string a0_1) := (blk_cell BK297.out 1).trans rfl
              have hcz14_2 : wc.cell? ⟨gb297, 2, none⟩ = some (.int .i64 a0_2) := (blk_cell BK297.out 2).trans rfl
              have hfz14_0 := blk_frozen BK297.out 0
              have hfz14_1 := blk_frozen BK297.out 1
              have hfz14_2 := blk_frozen BK297.out 2
              go_wp2
              go_ret
              exact ⟨by first | rfl | (simp [errW_none, errW_some] <;> rfl) | (simp [*, errW_none, errW_some] <;> rfl), by repeat (first | (with_reducible first | exact HB.out | apply below_alloc | apply pw_below_drewN | apply below_drew1 | refine below_set ?_ GE297.out) | exact HB.out)⟩
            · rw [if_neg c13] at H
              have c13b0 : decide (1 ≤ a0_2) = false := decide_eq_false c13
              clear c13
              obtain rfl := Option.some.inj H
              have hcz15_0 : wc.cell? ⟨gb297, 0, none⟩ = some (.int .i64 a0_0) := (blk_cell BK297.out 0).trans rfl
              have hcz15_1 : wc.cell? ⟨gb297, 1, none⟩ = some (.string a0_1) := (blk_cell BK297.out 1).trans rfl
              have hcz15_2 : wc.cell? ⟨gb297, 2, none⟩ = some (.int .i64 a0_2) := (blk_cell BK297.out 2).trans rfl
              have hfz15_0 := blk_frozen BK297.out 0
              have hfz15_1 := blk_frozen BK297.out 1
              have hfz15_2 := blk_frozen BK297.out 2
              go_wp2
              go_ret
              exact ⟨by first | rfl | (simp [errW_none, errW_some] <;> rfl) | (simp [*, errW_none, errW_some] <;> rfl), by repeat (first | (with_reducible first | exact HB.out | apply below_alloc | apply pw_below_drewN | apply below_drew1 | refine below_set ?_ GE297.out) | exact HB.out)⟩
          · rw [if_neg c12] at H
            have c12b0 : (a0_1.toList == ([] : List UInt8)) = false := beq_eq_false_iff_ne.mpr c12
            have c12b1 : (a0_1.toList != ([] : List UInt8)) = true := bne_iff_ne.mpr c12
            obtain rfl := Option.some.inj H
            have hcz16_0 : wc.cell? ⟨gb297, 0, none⟩ = some (.int .i64 a0_0) := (blk_cell BK297.out 0).trans rfl
            have hcz16_1 : wc.cell? ⟨gb297, 1, none⟩ = some (.string a0_1) := (blk_cell BK297.out 1).trans rfl
            have hcz16_2 : wc.cell? ⟨gb297, 2, none⟩ = some (.int .i64 a0_2) := (blk_cell BK297.out 2).trans rfl
            have hfz16_0 := blk_frozen BK297.out 0
            have hfz16_1 := blk_frozen BK297.out 1
            have hfz16_2 := blk_frozen BK297.out 2
            go_wp2
            go_ret
            exact ⟨by first | rfl | (simp [errW_none, errW_some] <;> rfl) | (simp [*, errW_none, errW_some] <;> rfl), by repeat (first | (with_reducible first | exact HB.out | apply below_alloc | apply pw_below_drewN | apply below_drew1 | refine below_set ?_ GE297.out) | exact HB.out)⟩
def cahierlaw11_same.l0 : Nat → List Int → List Int → Int → Option (Bool)
  | 0, _, _, _ => none
  | k + 1, x0, x1, x5 => if x5 < (x0.length : Int) then (if 0 ≤ x5 then (if x5 < (x1.length : Int) then (if (rd x0 x5) = (rd x1 x5) then (cahierlaw11_same.l0 k x0 x1 (wrap64 (x5 + 1))) else (some false)) else (none)) else (none)) else (some true)
def cahierlaw11_same.f (k : Nat) (l0 : List Int) (l1 : List Int) : Option (Bool) := if (l0.length : Int) = (l1.length : Int) then (cahierlaw11_same.l0 k l0 l1 0) else (some false)
theorem cahierlaw11_same.mono_l : ∀ k, (∀ y0 y1 y2, LeO (cahierlaw11_same.l0 k y0 y1 y2) (cahierlaw11_same.l0 (k + 1) y0 y1 y2))
  | 0 => fun _ _ _ r h => by simp [cahierlaw11_same.l0] at h
  | k + 1 => by
    have ih0 := cahierlaw11_same.mono_l k
    · intro y0 y1 y2
      unfold cahierlaw11_same.l0
      repeat' first
      | (with_reducible exact ih0 _ _ _)
      | (with_reducible exact LeO.refl _)
      | (with_reducible exact LeO.none _)
      | (with_reducible refine LeO.ite ?_ ?_)
      | (with_reducible refine LeO.bind ?_ (fun _ => ?_))
      | exact ih0 _ _ _
      | exact LeO.none _
      | refine LeO.ite ?_ ?_
      | refine LeO.bind ?_ (fun _ => ?_)
theorem cahierlaw11_same.mono : ∀ a0 a1 k, LeO (cahierlaw11_same.f k a0 a1) (cahierlaw11_same.f (k + 1) a0 a1) := by
  intro a0 a1 k
  have ih0 := cahierlaw11_same.mono_l k
  unfold cahierlaw11_same.f
  repeat' first
      | (with_reducible exact ih0 _ _ _)
      | (with_reducible exact LeO.refl _)
      | (with_reducible exact LeO.none _)
      | (with_reducible refine LeO.ite ?_ ?_)
      | (with_reducible refine LeO.bind ?_ (fun _ => ?_))
      | exact ih0 _ _ _
      | exact LeO.none _
      | refine LeO.ite ?_ ?_
      | refine LeO.bind ?_ (fun _ => ?_)
set_option maxHeartbeats 8000000 in
set_option maxRecDepth 100000 in
theorem cahierlaw11_same.calls (k : Nat) (A0 : Option Addr) (c0 : Nat) (l0 : List Int) (A1 : Option Addr) (c1 : Nat) (l1 : List Int) (r : Bool) (w : World) (hr0 : Kd.C (Kd.int .i64) w A0 l0.length l0) (hc0 : l0.length ≤ c0) (hr1 : Kd.C (Kd.int .i64) w A1 l1.length l1) (hc1 : l1.length ≤ c1) (h : cahierlaw11_same.f k l0 l1 = some r) :
    Calls Tryz.prog 12 #[.slice A0 l0.length c0, .slice A1 l1.length c1] w fun e w' => e = .returned (.bool r) ∧ Drawn0 w w' := by
  have HR0 := Aside0.mk hr0
  have HC0 := Aside0.mk hc0
  clear hr0 hc0
  have HR1 := Aside0.mk hr1
  have HC1 := Aside0.mk hc1
  clear hr1 hc1
  have H : (if (l0.length : Int) = (l1.length : Int) then (cahierlaw11_same.l0 k l0 l1 0) else (some false)) = some r := h
  clear h
  by_cases c3 : (l0.length : Int) = (l1.length : Int)
  · rw [if_pos c3] at H
    have c3b0 : ((l0.length : Int) == (l1.length : Int)) = true := beq_iff_eq.mpr c3
    have c3b1 : ((l0.length : Int) != (l1.length : Int)) = false := bne_eq_false_iff_eq.mpr c3
    have c3b2 : (l0.length == l1.length) = true := by first | simpa using c3 | (simp at c3 ⊢; omega)
    clear c3
    have H' := Aside0.mk H
    clear H
    go_enter Tryz.func12, Tryz.ntmps12
    go_wp2
    repeat (go_quiet (fail); try go_wp2)
    go_loopg [5] k (fun kq v5 w' => ∃ (x5_1 : Int), v5 = .int .i64 x5_1 ∧ Aside0 (cahierlaw11_same.l0 kq l0 l1 x5_1 = some r) ∧ Aside0 (kq ≤ k) ∧ Drawn0 w w')
    case atStart => exact ⟨(0), (by first | rfl | (simp; done) | (simp [*]; done)), H', ⟨Nat.le_refl _⟩, by repeat (first | exact Drawn0.refl _ | apply Drawn0.step)⟩
    case round =>
      clear H'
      try clear c1
      try clear p2
      try clear c3
      try clear c3b0
      try clear c3b1
      try clear c3b2
      obtain ⟨x5_1, rfl, HA, HK1, ⟨m1, rfl⟩⟩ := hrel
      cases gk with
      | zero => exact absurd HA.out (by simp [cahierlaw11_same.l0])
      | succ k1 =>
        have H := HA.out
        clear HA
        simp only [cahierlaw11_same.l0] at H
        by_cases c4 : x5_1 < (l0.length : Int)
        · rw [if_pos c4] at H
          have c4b0 : decide (x5_1 < (l0.length : Int)) = true := decide_eq_true c4
          clear c4
          by_cases c5 : 0 ≤ x5_1
          · rw [if_pos c5] at H
            have c5b0 : decide (0 ≤ x5_1) = true := decide_eq_true c5
            clear c5
            by_cases c6 : x5_1 < (l1.length : Int)
            · rw [if_pos c6] at H
              have c6b0 : decide (x5_1 < (l1.length : Int)) = true := decide_eq_true c6
              clear c6
              by_cases c7 : (rd l0 x5_1) = (rd l1 x5_1)
              · rw [if_pos c7] at H
                have c7b0 : ((rd l0 x5_1) == (rd l1 x5_1)) = true := beq_iff_eq.mpr c7
                have c7b1 : ((rd l0 x5_1) != (rd l1 x5_1)) = false := bne_eq_false_iff_eq.mpr c7
                clear c7
                have H' := Aside0.mk H
                clear H
                have p298 : 0 ≤ (x5_1 : Int) := of_decide_eq_true (by first | (with_reducible assumption) | assumption)
                have q298 : x5_1 < (l0.length : Int) := of_decide_eq_true (by first | (with_reducible assumption) | assumption)
                obtain ⟨ad298, e298, hx298_0⟩ := Kd.at_int HR0.out x5_1 p298 q298
                cases e298
                replace p298 := eq_true p298
                replace q298 := eq_true q298
                have p299 : 0 ≤ (x5_1 : Int) := of_decide_eq_true (by first | (with_reducible assumption) | assumption)
                have q299 : x5_1 < (l1.length : Int) := of_decide_eq_true (by first | (with_reducible assumption) | assumption)
                obtain ⟨ad299, e299, hx299_0⟩ := Kd.at_int HR1.out x5_1 p299 q299
                cases e299
                replace p299 := eq_true p299
                replace q299 := eq_true q299
                go_wp2
                repeat (go_quiet (fail); try go_wp2)
                go_roundg k1
                case measure => have := HK1.out; omega
                case rel => exact ⟨(wrap64 (x5_1 + 1)), (by first | rfl | (simp; done) | (simp [*]; done)), H', ⟨by have := HK1.out; omega⟩, by repeat (first | exact Drawn0.refl _ | apply Drawn0.step)⟩
              · rw [if_neg c7] at H
                have c7b0 : ((rd l0 x5_1) == (rd l1 x5_1)) = false := beq_eq_false_iff_ne.mpr c7
                have c7b1 : ((rd l0 x5_1) != (rd l1 x5_1)) = true := bne_iff_ne.mpr c7
                obtain rfl := Option.some.inj H
                have p298 : 0 ≤ (x5_1 : Int) := of_decide_eq_true (by first | (with_reducible assumption) | assumption)
                have q298 : x5_1 < (l0.length : Int) := of_decide_eq_true (by first | (with_reducible assumption) | assumption)
                obtain ⟨ad298, e298, hx298_0⟩ := Kd.at_int HR0.out x5_1 p298 q298
                cases e298
                replace p298 := eq_true p298
                replace q298 := eq_true q298
                have p299 : 0 ≤ (x5_1 : Int) := of_decide_eq_true (by first | (with_reducible assumption) | assumption)
                have q299 : x5_1 < (l1.length : Int) := of_decide_eq_true (by first | (with_reducible assumption) | assumption)
                obtain ⟨ad299, e299, hx299_0⟩ := Kd.at_int HR1.out x5_1 p299 q299
                cases e299
                replace p299 := eq_true p299
                replace q299 := eq_true q299
                go_wp2
                repeat (go_quiet (fail); try go_wp2)
                go_ret
                exact ⟨by first | rfl | (simp; done) | (simp [*]; done), by repeat (first | exact Drawn0.refl _ | apply Drawn0.step)⟩
            · rw [if_neg c6] at H
              exact absurd H (by simp)
          · rw [if_neg c5] at H
            exact absurd H (by simp)
        · rw [if_neg c4] at H
          have c4b0 : decide (x5_1 < (l0.length : Int)) = false := decide_eq_false c4
          clear c4
          obtain rfl := Option.some.inj H
          go_wp2
          repeat (go_quiet (fail); try go_wp2)
          go_ret
          exact ⟨by first | rfl | (simp; done) | (simp [*]; done), by repeat (first | exact Drawn0.refl _ | apply Drawn0.step)⟩
  · rw [if_neg c3] at H
    have c3b0 : ((l0.length : Int) == (l1.length : Int)) = false := beq_eq_false_iff_ne.mpr c3
    have c3b1 : ((l0.length : Int) != (l1.length : Int)) = true := bne_iff_ne.mpr c3
    have c3b2 : (l0.length == l1.length) = false := by first | simpa using c3 | (simp at c3 ⊢; omega)
    obtain rfl := Option.some.inj H
    go_enter Tryz.func12, Tryz.ntmps12
    go_wp2
    repeat (go_quiet (fail); try go_wp2)
    go_ret
    exact ⟨by first | rfl | (simp; done) | (simp [*]; done), by repeat (first | exact Drawn0.refl _ | apply Drawn0.step)⟩
end Go.Proofs.YtonbipaajhokfaaGreatDoor.PChainReads
end
section
set_option linter.unusedVariables false
set_option linter.unusedSimpArgs false
namespace Go.Proofs.YtonbipaajhokfaaGreatDoor
open Go.RowKit Go.Proofs.YtonbipaajhokfaaGreatDoorW.PrintWords Go.Proofs.YtonbipaajhokfaaGreatDoorW.PrintLast Go.Proofs.YtonbipaajhokfaaGreatDoorW.PrintMore
theorem refGood_f (x0 : Int) (x1 : ByteArray) (x2 : Int) : PChainReads.cahierref11_Good.f 1 x0 x1 x2 = some (cellGood x0 x1 x2) := by
  have hb : decide (x0 > 5000) = decide (5000 < x0) := rfl
  unfold PChainReads.cahierref11_Good.f cellGood
  by_cases h0 : x0 < 0
  · rw [if_pos h0, if_pos (Or.inl h0)]; rfl
  · rw [if_neg h0]
    show (if decide (x0 > 5000) = true then (some false : Option Bool) else (if x0 ≤ 40 then (if (x1.size : Int) = x0 then some (x2 == 0) else some false) else (if x1.toList = [] then (if x2 ≥ 1 then some (decide (x2 ≤ 4095)) else some false) else some false))) = _
    by_cases h1 : 5000 < x0
    · rw [if_pos (decide_eq_true (show x0 > 5000 from h1)), if_pos (Or.inr h1)]
    · rw [if_neg (show ¬ decide (x0 > 5000) = true by rw [decide_eq_false (show ¬ x0 > 5000 from h1)]; decide), if_neg (show ¬ (x0 < 0 ∨ 5000 < x0) by omega)]
      by_cases h2 : x0 ≤ 40
      · rw [if_pos h2, if_pos h2]
        by_cases h3 : (x1.size : Int) = x0
        · rw [if_pos h3]
          by_cases h4 : x2 = 0
          · rw [decide_eq_true (show (x1.size : Int) = x0 ∧ x2 = 0 from ⟨h3, h4⟩), h4]; rfl
          · rw [decide_eq_false (fun h => h4 h.2), beq_false_of h4]
        · rw [if_neg h3, decide_eq_false (fun h => h3 h.1)]
      · rw [if_neg h2, if_neg h2]
        by_cases h3 : x1.size = 0
        · have e : x1 = ⟨#[]⟩ := by apply ByteArray.ext; exact Array.eq_empty_of_size_eq_zero h3
          subst e
          rw [if_pos (show (⟨#[]⟩ : ByteArray).toList = [] by rw [ByteArray.toList_eq]), decide_eq_true (show (⟨#[]⟩ : ByteArray).size = 0 from rfl), Bool.true_and]
          unfold pageB
          by_cases h4 : x2 ≥ 1
          · rw [if_pos h4, decide_eq_true (show 1 ≤ x2 from h4), Bool.true_and]
            congr 1
            by_cases h5 : x2 ≤ 4095
            · rw [decide_eq_true h5, decide_eq_true (show x2 < 4096 by omega)]
            · rw [decide_eq_false h5, decide_eq_false (show ¬ x2 < 4096 by omega)]
          · rw [if_neg h4, decide_eq_false (show ¬ 1 ≤ x2 from h4), Bool.false_and]
        · rw [if_neg (ba_toList_nil h3), decide_eq_false h3, Bool.false_and]
theorem refGood_calls (x0 : Int) (x1 : ByteArray) (x2 : Int) (w : World) :
    Calls Tryz.prog 15 #[.agg #[.int .i64 x0, .string x1, .int .i64 x2]] w fun e w' => e = .returned (.bool (cellGood x0 x1 x2)) ∧ Below w.heap.size w w' :=
  PChainReads.cahierref11_Good.calls 1 x0 x1 x2 _ w (refGood_f x0 x1 x2)
def refG (p : Int) (N : List Int) (D : List ByteArray) (n : Int) : ByteArray × Int := if 1 ≤ n ∧ n < p then (getB N D n, 0) else (⟨#[]⟩, 21)
def rFollow (g : Int → ByteArray × Int) : Nat → Int → Nat → List UInt8 → List Int → List UInt8 × List Int × Int
  | 0, _, _, out, l => (out, l, 0)
  | k + 1, a, left, out, l =>
    if (g a).2 ≠ 0 then ([], [], (g a).2)
    else if pageOk (g a).1.data.toList left = false then ([], [], 30)
    else rFollow g k (nextOf (g a).1.data.toList) (left - 227) (out ++ ((g a).1.data.toList.drop 5).take left) (l ++ [a])
def rWalk (g : Int → ByteArray × Int) (c : Cel) : List UInt8 × List Int × Int :=
  if cellGood c.1 c.2.1 c.2.2 = false then ([], [], 1) else if c.2.2 = 0 then (c.2.1.data.toList, [], 0) else rFollow g (parts c.1.toNat) c.2.2 c.1.toNat [] []
theorem get_flat {lim p : Int} {f : Int → Option ByteArray} {N : List Int} {D : List ByteArray} (h : ∀ n, 1 ≤ n → n < p → readB f n = getB N D n) (n : Int) : (flatSh lim p f).get n = refG p N D n := by
  unfold Sh.get refG Sh.beg
  dsimp only
  rw [if_neg (show ¬ (-1 : Int) = 0 by decide)]
  by_cases h1 : 1 ≤ n ∧ n < p
  · rw [if_neg (show ¬ (n < 1 ∨ p ≤ n) by omega), if_neg (by decide), if_pos h1, h n h1.1 h1.2]
  · rw [if_pos (show n < 1 ∨ p ≤ n by omega), if_pos (by decide), if_neg h1]
theorem follow_flat (ks mb : Nat) {lim p : Int} {f : Int → Option ByteArray} {N : List Int} {D : List ByteArray} (h : ∀ n, 1 ≤ n → n < p → readB f n = getB N D n) :
    ∀ (k : Nat) (a : Int) (left : Nat) (out : List UInt8) (l : List Int), (shPg ks mb).follow k (flatSh lim p f) a left out l = (flatSh lim p f, rFollow (refG p N D) k a left out l) := by
  intro k
  induction k with
  | zero => intro a left out l; rfl
  | succ k ih =>
    intro a left out l
    have hg : (shPg ks mb).get (flatSh lim p f) a = (flatSh lim p f, (refG p N D a).1, (refG p N D a).2) := by
      have := get_flat (lim := lim) h a
      show ((flatSh lim p f).dec, ((flatSh lim p f).get a).1, ((flatSh lim p f).get a).2) = _
      rw [flat_dec, this]
    unfold Pg.follow rFollow
    rw [hg]
    dsimp only
    by_cases h1 : (refG p N D a).2 ≠ 0
    · rw [if_pos h1, if_pos h1]
    · rw [if_neg h1, if_neg h1]
      by_cases h2 : pageOk (refG p N D a).1.data.toList left = false
      · rw [if_pos h2, if_pos h2]
      · rw [if_neg h2, if_neg h2, ih]
theorem walk_flat (ks mb : Nat) {lim p : Int} {f : Int → Option ByteArray} {N : List Int} {D : List ByteArray} (h : ∀ n, 1 ≤ n → n < p → readB f n = getB N D n) (c : Cel) :
    (shPg ks mb).walk (flatSh lim p f) c = (flatSh lim p f, rWalk (refG p N D) c) := by
  unfold Pg.walk rWalk
  by_cases h1 : cellGood c.1 c.2.1 c.2.2 = false
  · rw [if_pos h1, if_pos h1]
  · rw [if_neg h1, if_neg h1]
    by_cases h2 : c.2.2 = 0
    · rw [if_pos h2, if_pos h2]
    · rw [if_neg h2, if_neg h2, follow_flat ks mb h]
theorem rFollow_err {g : Int → ByteArray × Int} {k : Nat} {a e1 : Int} {d : ByteArray} {left : Nat} {out : List UInt8} {l : List Int} (h : g a = (d, e1)) (he : e1 ≠ 0) : rFollow g (k + 1) a left out l = ([], [], e1) := by
  unfold rFollow; rw [h]; dsimp only; rw [if_pos he]
theorem rFollow_bad {g : Int → ByteArray × Int} {k : Nat} {a : Int} {d : ByteArray} {left : Nat} {out : List UInt8} {l : List Int} (h : g a = (d, 0)) (hp : pageOk d.data.toList left = false) : rFollow g (k + 1) a left out l = ([], [], 30) := by
  unfold rFollow; rw [h]; dsimp only; rw [if_neg (by decide), if_pos hp]
theorem rFollow_step {g : Int → ByteArray × Int} {k : Nat} {a : Int} {d : ByteArray} {left : Nat} {out : List UInt8} {l : List Int} (h : g a = (d, 0)) (hp : pageOk d.data.toList left = true) :
    rFollow g (k + 1) a left out l = rFollow g k (nextOf d.data.toList) (left - 227) (out ++ (d.data.toList.drop 5).take left) (l ++ [a]) := by
  conv => lhs; unfold rFollow
  rw [h]; dsimp only; rw [if_neg (by decide), if_neg (by rw [hp]; decide)]
theorem kind_byte {pl : List UInt8} (h : 0 < pl.length) : isKind pl = ((pl.getD 0 0).toNat == 3) := by
  cases pl with
  | nil => cases h
  | cons x r =>
    show ([3].isPrefixOf (x :: r)) = (x.toNat == 3)
    simp only [List.isPrefixOf, Bool.and_true]
    by_cases e : x = 3
    · subst e; rfl
    · have e2 : ¬ x.toNat = 3 := fun h => e (by apply UInt8.toNat_inj.1; exact h)
      rw [beq_eq_false_iff_ne.2 (fun h => e h.symm), beq_eq_false_iff_ne.2 e2]
theorem rest_zero {pl : List UInt8} {sz : Nat} (hl : pl.length = 232) (hz : ∀ m, 5 + sz ≤ m → m < 232 → pl.getD m 0 = 0) : (pl.drop 5).drop sz |>.all (· == 0) := by
  rw [List.all_eq_true]
  intro x hx
  rw [List.drop_drop] at hx
  obtain ⟨i, hi, rfl⟩ := List.getElem_of_mem hx
  rw [List.length_drop] at hi
  have := hz (5 + sz + i) (by omega) (by omega)
  rw [List.getD_eq_getElem?_getD, List.getElem?_eq_getElem (by omega)] at this
  rw [List.getElem_drop]
  simpa using this
theorem rest_odd {pl : List UInt8} {sz m : Nat} (hl : pl.length = 232) (h1 : 5 + sz ≤ m) (h2 : m < 232) (hz : pl.getD m 0 ≠ 0) : ((pl.drop 5).drop sz).all (· == 0) = false := by
  rw [List.all_eq_false]
  refine ⟨pl.getD m 0, ?_, by simpa using hz⟩
  rw [List.drop_drop, List.getD_eq_getElem?_getD, List.getElem?_eq_getElem (by omega)]
  exact List.mem_drop_iff_getElem.2 ⟨m - (5 + sz), by omega, by simp; congr 1; omega⟩
end Go.Proofs.YtonbipaajhokfaaGreatDoor
end
