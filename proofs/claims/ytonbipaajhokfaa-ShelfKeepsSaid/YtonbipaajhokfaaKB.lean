/-
  The heap words for objects that calls change: Fr (what a call leaves alone), a book of pages; the first place of something in a list.
-/
import Derived.Test.YtonbipaajhokfaaA5
set_option linter.unusedVariables false
set_option linter.unusedSimpArgs false
namespace Go.Proofs.Ytonbipaajhokfaa
open Go.RowKit Go.Proofs.YtonbipaajhokfaaW.PrintWords Go.Proofs.YtonbipaajhokfaaW.PrintLast Go.Proofs.YtonbipaajhokfaaW.PrintMore

/-- Of what was there, blocks of F alone may have changed. -/
structure Fr (F : Nat → Prop) (w w' : World) : Prop where
  os : w'.os = w.os
  tape : w'.tape = w.tape
  output : w'.output = w.output
  size : w.heap.size ≤ w'.heap.size
  block : ∀ k, k < w.heap.size → ¬ F k → w'.heap[k]? = w.heap[k]?
theorem Fr.refl (F : Nat → Prop) (w : World) : Fr F w w := ⟨rfl, rfl, rfl, Nat.le_refl _, fun _ _ _ => rfl⟩
theorem Fr.of_below {F : Nat → Prop} {w w' : World} (h : Below w.heap.size w w') : Fr F w w' := ⟨h.os, h.tape, h.output, h.size, fun k hk _ => h.block k hk⟩
theorem Fr.trans {F F' : Nat → Prop} {a b c : World} (h : Fr F a b) (k : Fr F' b c) (hF : ∀ i, i < a.heap.size → F' i → F i) : Fr F a c :=
  ⟨k.os.trans h.os, k.tape.trans h.tape, k.output.trans h.output, Nat.le_trans h.size k.size, fun i hi hn =>
    (k.block i (Nat.lt_of_lt_of_le hi h.size) (fun hf => hn (hF i hi hf))).trans (h.block i hi hn)⟩
theorem Fr.mono {F F' : Nat → Prop} {a b : World} (h : Fr F a b) (hF : ∀ i, i < a.heap.size → F i → F' i) : Fr F' a b :=
  ⟨h.os, h.tape, h.output, h.size, fun i hi hn => h.block i hi (fun hf => hn (hF i hi hf))⟩
theorem Fr.alloc {F : Nat → Prop} {a b : World} (h : Fr F a b) (o : Obj) : Fr F a (b.alloc o) :=
  h.trans (Fr.of_below (F := F) (below_alloc (Below.refl _ _) o)) (fun _ _ h => h)
theorem Fr.then_below {F : Nat → Prop} {a b c : World} (h : Fr F a b) (k : Below b.heap.size b c) : Fr F a c := h.trans (Fr.of_below (F := F) k) (fun _ _ h => h)
theorem Fr.setCell {F : Nat → Prop} {a b : World} (h : Fr F a b) {p : Addr} (hp : F p.block ∨ a.heap.size ≤ p.block) (u : Value) : Fr F a (b.setCell p u) :=
  ⟨h.os, h.tape, h.output, by simpa using h.size, fun k hk hn => (Below.heap_setCell b p u k (fun e => by rcases hp with hp | hp; exact hn (e ▸ hp); omega)).trans (h.block k hk hn)⟩
theorem Fr.grown {F : Nat → Prop} {a b c : World} {row : Option Nat} (h : Fr F a b) (hg : b.grownBy c row) (hr : ∀ k, row = some k → F k ∨ a.heap.size ≤ k) : Fr F a c :=
  ⟨hg.os.trans h.os, hg.tape.trans h.tape, hg.output.trans h.output, Nat.le_trans h.size hg.size, fun k hk hn =>
    (hg.block k (Nat.lt_of_lt_of_le hk h.size) (fun e => by rcases hr k e.symm with h1 | h1; exact hn h1; omega)).trans (h.block k hk hn)⟩
/-- Where F lies from B on, a call that changes F alone leaves all below B. -/
theorem Fr.below {F : Nat → Prop} {B : Nat} {w w' : World} (h : Fr F w w') (hF : ∀ k, F k → B ≤ k) (hB : B ≤ w.heap.size) : Below B w w' :=
  ⟨h.os, h.tape, h.output, h.size, fun k hk => h.block k (by omega) (fun hf => by have := hF k hf; omega)⟩
theorem Fr.blk {F : Nat → Prop} {w w' : World} {g : Nat} {o : Obj} (h : Fr F w w') (hb : w.heap[g]? = some o) (hn : ¬ F g) : w'.heap[g]? = some o :=
  (h.block g (blk_lt hb) hn).trans hb

/-! ### The first place -/
def firstAt (p : Int → Bool) : List Int → Int
  | [] => -1
  | x :: r => if p x then 0 else (if firstAt p r = -1 then -1 else firstAt p r + 1)
theorem firstAt_range (p : Int → Bool) (l : List Int) : -1 ≤ firstAt p l ∧ firstAt p l < l.length := by
  induction l with
  | nil => simp [firstAt]
  | cons x r ih => unfold firstAt; simp only [List.length_cons]; split <;> (try split) <;> omega
theorem firstAt_at {p : Int → Bool} {l : List Int} {k : Nat} (hk : k < l.length) (hb : ∀ j, j < k → p (l.getD j 0) = false) (h : p (l.getD k 0) = true) : firstAt p l = k := by
  induction l generalizing k with
  | nil => simp at hk
  | cons x r ih =>
    cases k with
    | zero => simp at h; simp [firstAt, h]
    | succ k =>
      have h0 := hb 0 (by omega)
      simp at h0
      have := ih (k := k) (by simpa using hk) (fun j hj => by have := hb (j + 1) (by omega); simpa using this) (by simpa using h)
      simp only [firstAt, h0, this]
      rw [if_neg (by decide), if_neg (by omega)]
      omega
theorem firstAt_no {p : Int → Bool} {l : List Int} (hb : ∀ j, j < l.length → p (l.getD j 0) = false) : firstAt p l = -1 := by
  induction l with
  | nil => rfl
  | cons x r ih =>
    have h0 := hb 0 (by simp)
    simp at h0
    have := ih (fun j hj => by have := hb (j + 1) (by simpa using hj); simpa using this)
    simp [firstAt, h0, this]
def eqB (n x : Int) : Bool := decide (x = n)
/-- Where a page stands among numbers, -1: nowhere. -/
def placeOf (N : List Int) (n : Int) : Int := firstAt (eqB n) N

/-! ### A book of pages -/
def BookAt (w : World) (F : Nat → Prop) (kb : Nat) (N : List Int) (D : List ByteArray) : Prop :=
  F kb ∧ (∀ k, F k → k < w.heap.size) ∧ N.length = D.length ∧ ∃ vN vD, w.heap[kb]? = some (.cells #[vN, vD] 43 (0, 0)) ∧
    (Kd.int .i64).R 3 w 0 F vN N ∧ Kd.string.R 9 w 0 F vD D
theorem BookAt.keep {w w' : World} {F : Nat → Prop} {kb : Nat} {N : List Int} {D : List ByteArray} (h : BookAt w F kb N D) (hk : ∀ k, F k → w'.heap[k]? = w.heap[k]?) (hs : w.heap.size ≤ w'.heap.size) : BookAt w' F kb N D := by
  obtain ⟨h1, h2, h3, vN, vD, h4, h5, h6⟩ := h
  exact ⟨h1, fun k hf => Nat.lt_of_lt_of_le (h2 k hf) hs, h3, vN, vD, (hk kb h1).trans h4, Kd.R_move h5 hk, Kd.R_move h6 hk⟩
theorem BookAt.below {w w' : World} {F : Nat → Prop} {kb : Nat} {N : List Int} {D : List ByteArray} (h : BookAt w F kb N D) (hb : Below w.heap.size w w') : BookAt w' F kb N D :=
  h.keep (fun k hk => hb.block k (h.2.1 k hk)) hb.size

def blankL : List UInt8 := List.replicate 232 0
def getB (N : List Int) (D : List ByteArray) (n : Int) : ByteArray := if placeOf N n < 0 then bs blankL else D.getD (placeOf N n).toNat ByteArray.empty
def putN (N : List Int) (n : Int) : List Int := if placeOf N n < 0 then N ++ [n] else N
def putD (N : List Int) (D : List ByteArray) (n : Int) (d : ByteArray) : List ByteArray := if placeOf N n < 0 then D ++ [d] else D.set (placeOf N n).toNat d

set_option maxHeartbeats 1000000 in
theorem place_calls (kb : Nat) (F : Nat → Prop) (N : List Int) (D : List ByteArray) (n : Int) (w : World) (h : BookAt w F kb N D) :
    Calls Try.prog 43 #[.pointer (some ⟨kb, 0, none⟩), .int .i64 n] w fun e w' => e = .returned (.int .i64 (placeOf N n)) ∧ w = w' := by
  obtain ⟨h1, h2, h3, vN, vD, h4, h5, h6⟩ := h
  obtain ⟨A, c, rfl⟩ := Kd.R_slice h5
  obtain ⟨_, hc, hC⟩ := Kd.R_reads' h5
  have hm := Kd.C_max hC
  have HC := Aside0.mk hC
  have hc0 := (blk_cell h4 0).trans rfl
  clear h1 h2 h3 h4 h5 h6 hC
  go_enter Try.func43, Try.ntmps43
  go_wp2
  go_loop [5] (fun i => ∃ k : Nat, k ≤ N.length ∧ i = .int .i64 k ∧ Aside0 (∀ j, j < k → eqB n (N.getD j 0) = false)) (fun i => N.length - (intOf i).toNat)
  case atStart => exact ⟨0, Nat.zero_le _, rfl, ⟨fun j hj => absurd hj (Nat.not_lt_zero j)⟩⟩
  case round =>
    obtain ⟨k, hk, rfl, hno⟩ := hrel
    by_cases hlt : k < N.length
    · obtain ⟨ad, e1, hx⟩ := Kd.at_int HC.out (k : Int) (by omega) (by omega)
      cases e1
      rw [show rd N (k : Int) = N.getD k 0 from rfl, Int.toNat_natCast] at hx
      obtain ⟨x, hxd⟩ : ∃ x, x = N.getD k 0 := ⟨_, rfl⟩
      rw [← hxd] at hx
      have HX := Aside0.mk hxd
      clear hxd
      by_cases hb : x = n
      · have HR := Aside0.mk (firstAt_at (p := eqB n) hlt hno.out (by rw [← HX.out]; simp [eqB, hb]))
        have ht : (x == n) = true := by simp [hb]
        clear hb
        go_wp2
        go_ret
        exact ⟨by unfold placeOf; rw [HR.out]; rfl, rfl⟩
      · have ht : (x == n) = false := by simp [hb]
        have HN := Aside0.mk hb
        clear hb
        go_wp2
        go_round
        case rel => exact ⟨k + 1, by omega, by go_num, ⟨fun j hj => by
          rcases Nat.lt_or_ge j k with h | h
          · exact hno.out j h
          · obtain rfl : j = k := by omega
            rw [← HX.out]; simp [eqB, HN.out]⟩⟩
        case measure => simp [intOf]; omega
    · have hke : k = N.length := by omega
      subst hke
      have HR := Aside0.mk (firstAt_no (p := eqB n) hno.out)
      go_wp2
      go_ret
      exact ⟨by unfold placeOf; rw [HR.out]; rfl, rfl⟩
end Go.Proofs.Ytonbipaajhokfaa
/-
  Walks: a book's Get and Put.
-/
set_option linter.unusedVariables false
set_option linter.unusedSimpArgs false
namespace Go.Proofs.Ytonbipaajhokfaa
open Go.RowKit Go.Proofs.YtonbipaajhokfaaW.PrintWords Go.Proofs.YtonbipaajhokfaaW.PrintLast Go.Proofs.YtonbipaajhokfaaW.PrintMore

def fullL (l : List UInt8) : List UInt8 := l.take 232 ++ List.replicate (232 - l.length) 0
theorem fullL_length (l : List UInt8) : (fullL l).length = 232 := by simp [fullL]; omega
theorem full_f (s : ByteArray) : PShelfFails.cahierref04_Full.f s = some (bs (fullL s.data.toList)) := by
  unfold PShelfFails.cahierref04_Full.f
  by_cases h : s.size ≥ 232
  · rw [if_pos (by omega), if_pos (by omega), if_pos (by omega)]
    congr 1
    rw [← bs_of (s.extract 0 _)]
    congr 1
    rw [extract_list]
    unfold fullL
    rw [data_length, show 232 - s.size = 0 by omega]
    simp
  · have e : wrap64 (232 - (s.size : Int)) = ((232 - s.size : Nat) : Int) := by unfold wrap64; omega
    rw [if_neg (by omega), e, if_pos (by omega), Int.toNat_natCast, if_pos (by omega)]
    simp only [Option.bind_some]
    rw [strOfNums_bs, bs_size, List.length_map, List.length_replicate, if_pos (by omega)]
    congr 1
    rw [← bs_of s, bs_append, bs_list]
    congr 1
    unfold fullL
    rw [data_length, List.take_of_length_le (by rw [data_length]; omega), List.map_replicate]
    rfl
theorem full_calls (s : ByteArray) (w : World) : Calls Try.prog 28 #[.string s] w fun e w' => e = .returned (.string (bs (fullL s.data.toList))) ∧ Below w.heap.size w w' :=
  PShelfFails.cahierref04_Full.calls _ _ w (full_f s)
theorem full_empty : PShelfFails.cahierref04_Full.f ⟨#[]⟩ = some (bs blankL) := full_f ⟨#[]⟩
theorem full_empty_calls (w : World) : Calls Try.prog 28 #[.string ⟨#[]⟩] w fun e w' => e = .returned (.string (bs blankL)) ∧ Below w.heap.size w w' :=
  PShelfFails.cahierref04_Full.calls _ _ w full_empty

set_option maxHeartbeats 1000000 in
theorem bookGet_calls (kb : Nat) (F : Nat → Prop) (N : List Int) (D : List ByteArray) (n : Int) (w : World) (h : BookAt w F kb N D) :
    Calls Try.prog 24 #[.pointer (some ⟨kb, 0, none⟩), .int .i64 n] w fun e w' => e = .returned (.string (getB N D n)) ∧ Below w.heap.size w w' := by
  have H := Aside0.mk h
  obtain ⟨h1, h2, h3, vN, vD, h4, h5, h6⟩ := h
  obtain ⟨A, c, rfl⟩ := Kd.R_slice h6
  obtain ⟨_, hc, hC⟩ := Kd.R_reads' h6
  have HC := Aside0.mk hC
  have hc1 := (blk_cell h4 1).trans rfl
  have hr := firstAt_range (eqB n) N
  have hm := Kd.C_max hC
  rw [show firstAt (eqB n) N = placeOf N n from rfl] at hr
  have H3 := Aside0.mk h3
  clear h1 h2 h3 h4 h5 h6 hC
  obtain ⟨p, hp⟩ : ∃ p, p = placeOf N n := ⟨_, rfl⟩
  rw [← hp] at hr
  have HP := Aside0.mk hp
  clear hp
  by_cases hlt : p < 0
  · have HG : Aside0 (getB N D n = bs blankL) := ⟨by unfold getB; rw [← HP.out, if_pos hlt]⟩
    go_enter Try.func24, Try.ntmps24
    go_wp2_with (first | (go_at_call 43; refine (place_calls _ _ _ _ _ _ H.out).mono ?_; rintro e w' ⟨rfl, rfl⟩; rw [← HP.out]) | (go_at_call 28; refine (full_empty_calls _).mono ?_; rintro e w' ⟨rfl, hb⟩))
    go_ret
    exact ⟨by rw [HG.out]; rfl, hb⟩
  · obtain ⟨k, rfl⟩ := Int.eq_ofNat_of_zero_le (show 0 ≤ p by omega)
    have hk : k < D.length := by have := H3.out; omega
    obtain ⟨ad, e1, hx⟩ := Kd.at_string HC.out (k : Int) (by omega) (by omega)
    cases e1
    rw [Int.toNat_natCast] at hx
    have HG : Aside0 (getB N D n = rdOf ByteArray.empty D (k : Int)) := ⟨by unfold getB; rw [← HP.out, if_neg hlt]; rfl⟩
    obtain ⟨x, hxd⟩ : ∃ x, x = rdOf ByteArray.empty D (k : Int) := ⟨_, rfl⟩
    rw [← hxd] at hx HG
    clear hxd hlt
    go_enter Try.func24, Try.ntmps24
    go_wp2_with (first | (go_at_call 43; refine (place_calls _ _ _ _ _ _ H.out).mono ?_; rintro e w' ⟨rfl, rfl⟩; rw [← HP.out]) | (go_at_call 28; refine (full_empty_calls _).mono ?_; rintro e w' ⟨rfl, hb⟩))
    go_ret
    exact ⟨by rw [HG.out]; rfl, Below.refl _ _⟩
end Go.Proofs.Ytonbipaajhokfaa
/-
  Walk: a book's Put.
-/
set_option linter.unusedVariables false
set_option linter.unusedSimpArgs false
namespace Go.Proofs.Ytonbipaajhokfaa
open Go.RowKit Go.Proofs.YtonbipaajhokfaaW.PrintWords Go.Proofs.YtonbipaajhokfaaW.PrintLast Go.Proofs.YtonbipaajhokfaaW.PrintMore

theorem R_ne_blk {α : Type} {d : Kd α} {e base : Nat} {ok : Nat → Prop} {w : World} {v : Value} {xs : List α} (h : d.R e w base ok v xs) {g : Nat} {t : TypeId} {cs : Array Value} (hb : w.heap[g]? = some (.cells cs t (0, 0))) (ht : t ≠ e) : some g ≠ v.ownBlock := by
  intro he
  obtain ⟨inner, ho⟩ := Kd.R_own h
  obtain ⟨cells, hc⟩ := own_typed ho g he.symm
  rw [hb] at hc
  injection hc with hc
  injection hc with _ hc
  exact ht hc
theorem info9 : (Try.prog.info? 9).map (fun i => (i.zero, i.size, i.bytes)) = some (some (.string ⟨#[]⟩), 1, 16) := by kernel_rfl
theorem no39 : ∀ q : Nat, q ∈ 9 :: Kd.string.E → q ≠ 3 := fun q hq => by simp [Kd.string, Kd.scalar] at hq; omega
theorem no93 : ∀ q : Nat, q ∈ 3 :: (Kd.int .i64).E → q ≠ 9 := fun q hq => by simp [Kd.int, Kd.scalar] at hq; omega
theorem no943 : ∀ q : Nat, q ∈ 9 :: Kd.string.E → q ≠ 43 := fun q hq => by simp [Kd.string, Kd.scalar] at hq; omega
theorem no343 : ∀ q : Nat, q ∈ 3 :: (Kd.int .i64).E → q ≠ 43 := fun q hq => by simp [Kd.int, Kd.scalar] at hq; omega

theorem below0 {w w1 : World} {row : Option Nat} (h : w.grownBy w1 row) {p : Addr} {u : Value} : Below 0 w (w1.setCell p u) :=
  ⟨h.os, h.tape, h.output, by simpa using h.size, fun k hk => absurd hk (Nat.not_lt_zero k)⟩
/-- F and what is new. -/
def Fnew (F : Nat → Prop) (w w' : World) : Nat → Prop := fun k => F k ∨ (w.heap.size ≤ k ∧ k < w'.heap.size)

set_option maxHeartbeats 2000000 in
set_option maxRecDepth 100000 in
theorem bookPut_new (kb : Nat) (F : Nat → Prop) (N : List Int) (D : List ByteArray) (n : Int) (d : ByteArray) (w : World) (h : BookAt w F kb N D) (hN : N.length < 1048576) (hp : placeOf N n < 0) :
    Calls Try.prog 19 #[.pointer (some ⟨kb, 0, none⟩), .int .i64 n, .string d] w fun e w' => e = .returned (.tuple #[]) ∧ BookAt w' (Fnew F w w') kb (N ++ [n]) (D ++ [d]) ∧ Fr F w w' := by
  have H := Aside0.mk h
  obtain ⟨h1, h2, h3, vN, vD, h4, h5, h6⟩ := h
  obtain ⟨A, c, rfl⟩ := Kd.R_slice h5
  obtain ⟨A2, c2, rfl⟩ := Kd.R_slice h6
  have hc0 := (blk_cell h4 0).trans rfl
  have hc1 := (blk_cell h4 1).trans rfl
  have HP := Aside0.mk hp
  have hr := (firstAt_range (eqB n) N).1
  have hpe : placeOf N n = -1 := by unfold placeOf at hp ⊢; omega
  have HPE := Aside0.mk hpe
  have H1 := Aside0.mk h1
  have H2 := Aside0.mk h2
  have H3 := Aside0.mk h3
  have H4 := Aside0.mk h4
  have H5 := Aside0.mk (Kd.R_mono (ok' := fun k => F k ∨ w.heap.size ≤ k) h5 (fun k hk => Or.inl hk))
  have H6 := Aside0.mk (Kd.R_mono (ok' := fun k => F k ∨ w.heap.size ≤ k) h6 (fun k hk => Or.inl hk))
  have HVN := Aside0.mk h5.1
  have HVD := Aside0.mk h6.1
  clear h1 h2 h3 h4 h5 h6 hp hr hpe
  go_enter Try.func19, Try.ntmps19
  go_wp2_with (first
    | (go_at_call 43; refine (place_calls _ _ _ _ _ _ H.out).mono ?_; rintro e w' ⟨rfl, rfl⟩; rw [HPE.out])
    | (at_builtin; refine Kd.R_append (Kd.int .i64) (w0 := w) 0 rfl (.tmp 16) (.tmp 18) 22 3 (.int .i64 0) 8 rfl Try.underlying22 info3 rfl (by decide) (by decide) (.slice A N.length c) _ n [.int .i64 n] (fun k => F k ∨ w.heap.size ≤ k) (fun k => some k ≠ (Value.slice A N.length c).ownBlock ∧ (F k ∨ w.heap.size ≤ k)) rfl rfl rfl (fun _ h => ⟨h.2, h.1⟩) (fun _ hk => Or.inr hk) H5.out (Below.refl 0 w) (Nat.zero_le _) (by omega) ?_; intro v1 w1 hR1 hB1 hG1 hat1; obtain ⟨A1, cc1, hv1⟩ := Kd.R_slice hR1; subst hv1; simp only [List.length_append, List.length_singleton] at hR1 ⊢; have HG1 := Aside0.mk hG1; have HR1 := Aside0.mk hR1; have HK1 := Aside0.mk (blk_grown H4.out hG1 (R_ne_blk H5.out H4.out (by decide))); have HD1 := Aside0.mk (Kd.R_over H6.out H5.out no39 hG1); clear hR1 hB1 hG1 hat1; have hk0 := (blk_cell HK1.out 0).trans rfl; have hk1 := (blk_cell HK1.out 1).trans rfl; have hf0 := blk_frozen HK1.out 0; have hf1 := blk_frozen HK1.out 1)
    | (at_builtin; refine Kd.R_append Kd.string (w0 := w) 0 rfl (.tmp 26) (.tmp 28) 41 9 (.string ⟨#[]⟩) 16 rfl Try.underlying41 info9 rfl (by decide) (by decide) (.slice A2 D.length c2) _ d [.string d] (fun k => F k ∨ w.heap.size ≤ k) (fun k => some k ≠ (Value.slice A2 D.length c2).ownBlock ∧ (F k ∨ w.heap.size ≤ k)) rfl (by show Value.slice (some ⟨w1.heap.size, 0, none⟩) 1 1 = _; simp) rfl (fun _ h => ⟨h.2, h.1⟩) (fun k hk => Or.inr (by have := HG1.out.size; simp at hk; omega)) (Kd.R_set HD1.out HK1.out no943 0 (.slice A1 (N.length + 1) cc1)) (below0 HG1.out) (Nat.zero_le _) (by have := H3.out; omega) ?_; intro v2 w2 hR2 hB2 hG2 hat2; obtain ⟨A3, cc3, hv2⟩ := Kd.R_slice hR2; subst hv2; simp only [List.length_append, List.length_singleton] at hR2 ⊢; have HG2 := Aside0.mk hG2; have HR2 := Aside0.mk hR2; have HS1 := Aside0.mk (Kd.R_set HR1.out HK1.out no343 0 (.slice A1 (N.length + 1) cc1)); have HT1 := Aside0.mk (Kd.R_set HD1.out HK1.out no943 0 (.slice A1 (N.length + 1) cc1)); have HK1' := Aside0.mk (blk_set HK1.out 0 (.slice A1 (N.length + 1) cc1)); have HK2 := Aside0.mk (blk_grown HK1'.out hG2 (R_ne_blk HT1.out HK1'.out (by decide))); have HN2 := Aside0.mk (Kd.R_over HS1.out HT1.out no93 hG2); clear hR2 hB2 hG2 hat2; have hk0' := (blk_cell HK2.out 0).trans rfl; have hk1' := (blk_cell HK2.out 1).trans rfl; have hf0' := blk_frozen HK2.out 0; have hf1' := blk_frozen HK2.out 1))
  refine bodyPost_ret (results_none rfl _ _ _) rfl ⟨rfl, ?_, ?_⟩
  · have hN3 := Kd.R_bound (Kd.R_set HN2.out HK2.out no343 1 (.slice A3 (D.length + 1) cc3))
    have hD3 := Kd.R_bound (Kd.R_set HR2.out HK2.out no943 1 (.slice A3 (D.length + 1) cc3))
    refine ⟨Or.inl H1.out, fun k hk => ?_, by simp [H3.out], _, _, blk_put HK2.out 1 _ rfl, ?_, ?_⟩
    · rcases hk with hk | hk
      · have h1 := H2.out k hk
        have h2 := HG1.out.size
        have h3 := HG2.out.size
        simp only [World.size_setCell] at h3 ⊢
        omega
      · exact hk.2
    · refine Kd.R_mono hN3 (fun k hk => ?_)
      rcases hk.1 with h1 | h1
      · exact Or.inl h1
      · exact Or.inr ⟨h1, hk.2.2.1⟩
    · refine Kd.R_mono hD3 (fun k hk => ?_)
      rcases hk.1 with h1 | h1
      · exact Or.inl h1
      · exact Or.inr ⟨h1, hk.2.2.1⟩
  · exact (((((Fr.refl F w).grown HG1.out (fun k hk => Or.inl (HVN.out k hk))).setCell (Or.inl H1.out) _).grown HG2.out (fun k hk => Or.inl (HVD.out k hk))).setCell (Or.inl H1.out) _)

set_option maxHeartbeats 2000000 in
set_option maxRecDepth 100000 in
theorem bookPut_old (kb : Nat) (F : Nat → Prop) (N : List Int) (D : List ByteArray) (n : Int) (d : ByteArray) (w : World) (h : BookAt w F kb N D) (k : Nat) (hp : placeOf N n = k) :
    Calls Try.prog 19 #[.pointer (some ⟨kb, 0, none⟩), .int .i64 n, .string d] w fun e w' => e = .returned (.tuple #[]) ∧ BookAt w' (Fnew F w w') kb N (D.set k d) ∧ Fr F w w' := by
  have H := Aside0.mk h
  obtain ⟨h1, h2, h3, vN, vD, h4, h5, h6⟩ := h
  have hr := firstAt_range (eqB n) N
  have hk : k < D.length := by unfold placeOf at hp; omega
  obtain ⟨g, c2, rfl, _, hgl, cells, hgc⟩ := Kd.R_form h6 (by omega)
  obtain ⟨hcell, hfz⟩ := Kd.R_cell ByteArray.empty h6 (k : Int) (by omega) (by omega)
  rw [Int.toNat_natCast] at hcell hfz
  have hc0 := (blk_cell h4 0).trans rfl
  have hc1 := (blk_cell h4 1).trans rfl
  have HP := Aside0.mk hp
  have H1 := Aside0.mk h1
  have H2 := Aside0.mk h2
  have H3 := Aside0.mk h3
  have H4 := Aside0.mk h4
  have H5 := Aside0.mk h5
  have H6 := Aside0.mk h6
  have HG := Aside0.mk (h6.1 g (by simp [Value.ownBlock]))
  have HNE := Aside0.mk (blk_ne h4 hgc (by decide))
  have HGC := Aside0.mk hgc
  clear h1 h2 h3 h4 h5 h6 hp hr hgc
  have hm : D.length ≤ 9223372036854775807 := by
    obtain ⟨_, _, hC⟩ := Kd.R_reads' H6.out
    exact Kd.C_max hC
  go_enter Try.func19, Try.ntmps19
  go_wp2_with (first
    | (go_at_call 43; refine (place_calls _ _ _ _ _ _ H.out).mono ?_; rintro e w' ⟨rfl, rfl⟩; rw [HP.out]))
  refine bodyPost_end (results_none rfl _ _ _) rfl ⟨rfl, ?_, ?_⟩
  · have hput := (Kd.R_put H6.out (k : Int) d).1
    rw [Int.toNat_natCast] at hput
    refine ⟨Or.inl H1.out, fun i hi => ?_, by simp [H3.out], _, _, (blk_far H4.out HNE.out _), Kd.R_mono (Kd.R_set H5.out HGC.out no93 k (.string d)) (fun i hi => Or.inl hi), Kd.R_mono ?_ (fun i hi => Or.inl hi)⟩
    · rcases hi with hi | hi
      · have := H2.out i hi
        simp only [World.size_setCell]
        exact this
      · exact hi.2
    · exact hput
  · exact (Fr.refl F w).setCell (Or.inl HG.out) _
theorem bookPut_calls (kb : Nat) (F : Nat → Prop) (N : List Int) (D : List ByteArray) (n : Int) (d : ByteArray) (w : World) (h : BookAt w F kb N D) (hN : N.length < 1048576) :
    Calls Try.prog 19 #[.pointer (some ⟨kb, 0, none⟩), .int .i64 n, .string d] w fun e w' => e = .returned (.tuple #[]) ∧ BookAt w' (Fnew F w w') kb (putN N n) (putD N D n d) ∧ Fr F w w' := by
  unfold putN putD
  by_cases hp : placeOf N n < 0
  · rw [if_pos hp, if_pos hp]; exact bookPut_new kb F N D n d w h hN hp
  · rw [if_neg hp, if_neg hp]
    exact bookPut_old kb F N D n d w h _ (by omega)
end Go.Proofs.Ytonbipaajhokfaa
/-
  Walks: a desk's Get and Put; what is asked of a store (Shop), and a desk as one.
-/
set_option linter.unusedVariables false
set_option linter.unusedSimpArgs false
namespace Go.Proofs.Ytonbipaajhokfaa
open Go.RowKit Go.Proofs.YtonbipaajhokfaaW.PrintWords Go.Proofs.YtonbipaajhokfaaW.PrintLast Go.Proofs.YtonbipaajhokfaaW.PrintMore

/-- A call has gone from (w, F) to a world where the object stands in state s' (At), its blocks F's or new; of what was there F alone may have changed. -/
def Goes (At : (Nat → Prop) → Prop) (F : Nat → Prop) (w w' : World) : Prop := ∃ F' : Nat → Prop, At F' ∧ (∀ k, F' k → F k ∨ w.heap.size ≤ k) ∧ Fr F w w'

structure Desk where
  N : List Int
  D : List ByteArray
  left : Int

theorem BookAt.mono {w : World} {F F' : Nat → Prop} {kb : Nat} {N : List Int} {D : List ByteArray} (h : BookAt w F kb N D) (hF : ∀ k, F k → F' k) (hb : ∀ k, F' k → k < w.heap.size) : BookAt w F' kb N D := by
  obtain ⟨h1, h2, h3, vN, vD, h4, h5, h6⟩ := h
  exact ⟨hF _ h1, hb, h3, vN, vD, h4, Kd.R_mono h5 hF, Kd.R_mono h6 hF⟩

def DeskAt (kd kb : Nat) (w : World) (F : Nat → Prop) (s : Desk) : Prop :=
  F kd ∧ w.heap[kd]? = some (.cells #[.pointer (some ⟨kb, 0, none⟩), .int .i64 s.left] 47 (0, 0)) ∧ BookAt w (fun k => F k ∧ k ≠ kd) kb s.N s.D
theorem DeskAt.keep {kd kb : Nat} {w w' : World} {F : Nat → Prop} {s : Desk} (h : DeskAt kd kb w F s) (hk : ∀ k, F k → w'.heap[k]? = w.heap[k]?) (hs : w.heap.size ≤ w'.heap.size) : DeskAt kd kb w' F s :=
  ⟨h.1, (hk kd h.1).trans h.2.1, h.2.2.keep (fun k hf => hk k hf.1) hs⟩
theorem DeskAt.bound {kd kb : Nat} {w : World} {F : Nat → Prop} {s : Desk} (h : DeskAt kd kb w F s) : ∀ k, F k → k < w.heap.size := fun k hk => by
  by_cases e : k = kd
  · subst e; exact blk_lt h.2.1
  · exact h.2.2.2.1 k ⟨hk, e⟩

def Desk.get (s : Desk) (n : Int) : Desk × ByteArray × Int :=
  if s.left = 0 then (s, ⟨#[]⟩, 11) else ({ s with left := wrap64 (s.left - 1) }, getB s.N s.D n, 0)
def Desk.put (s : Desk) (n : Int) (d : ByteArray) : Desk × Int :=
  if s.left = 0 then (s, 11) else (⟨putN s.N n, putD s.N s.D n d, wrap64 (s.left - 1)⟩, 0)

/-- A book while another block's cells are written. -/
theorem BookAt.setCell {w : World} {F : Nat → Prop} {kb : Nat} {N : List Int} {D : List ByteArray} (h : BookAt w F kb N D) {g : Nat} {t : TypeId} {cs : Array Value} (hb : w.heap[g]? = some (.cells cs t (0, 0))) (h1 : t ≠ 43) (h2 : t ≠ 3) (h3 : t ≠ 9) (i : Nat) (u : Value) : BookAt (w.setCell ⟨g, i, none⟩ u) F kb N D := by
  obtain ⟨h4, h5, h6, vN, vD, h7, h8, h9⟩ := h
  exact ⟨h4, fun k hk => by simpa using h5 k hk, h6, vN, vD, blk_far h7 (blk_ne h7 hb (Ne.symm h1)) u, Kd.R_set h8 hb (fun q hq => by simp [Kd.int, Kd.scalar] at hq; subst hq; exact Ne.symm h2) i u, Kd.R_set h9 hb (fun q hq => by simp [Kd.string, Kd.scalar] at hq; subst hq; exact Ne.symm h3) i u⟩

set_option maxHeartbeats 2000000 in
set_option maxRecDepth 100000 in
theorem deskGet_calls (kd kb : Nat) (F : Nat → Prop) (s : Desk) (n : Int) (w : World) (h : DeskAt kd kb w F s) :
    Calls Try.prog 80 #[.pointer (some ⟨kd, 0, none⟩), .int .i64 n] w fun e w' => e = .returned (.tuple #[.string (s.get n).2.1, .int .i64 (s.get n).2.2]) ∧ Goes (fun F' => DeskAt kd kb w' F' (s.get n).1) F w w' := by
  have hb := h.bound
  obtain ⟨h1, h2, h3⟩ := h
  have hc0 := (blk_cell h2 0).trans rfl
  have hc1 := (blk_cell h2 1).trans rfl
  have hf1 := blk_frozen h2 1
  have H1 := Aside0.mk h1
  have H2 := Aside0.mk h2
  have H3 := Aside0.mk h3
  have HB := Aside0.mk hb
  by_cases h0 : s.left = 0
  · have e1 : s.get n = (s, ⟨#[]⟩, 11) := by unfold Desk.get; rw [if_pos h0]
    rw [e1]
    clear h1 h2 h3 e1 hb
    have ht : (s.left == 0) = true := by simp [h0]
    clear h0
    go_enter Try.func80, Try.ntmps80
    go_wp2
    go_ret2
    exact ⟨rfl, F, ⟨H1.out, H2.out, H3.out⟩, fun k hk => Or.inl hk, Fr.refl F w⟩
  · have e1 : s.get n = ({ s with left := wrap64 (s.left - 1) }, getB s.N s.D n, 0) := by unfold Desk.get; rw [if_neg h0]
    rw [e1]
    have ht : (s.left == 0) = false := by simp [h0]
    have HBK := Aside0.mk (h3.setCell h2 (by decide) (by decide) (by decide) 1 (.int .i64 (wrap64 (s.left - 1))))
    clear h1 h2 h3 e1 hb h0
    obtain ⟨l, hl⟩ : ∃ l, l = s.left := ⟨_, rfl⟩
    rw [← hl] at hc1 ht H2 HBK ⊢
    clear hl
    go_enter Try.func80, Try.ntmps80
    go_wp2_with (go_at_call 24; refine (bookGet_calls kb (fun k => F k ∧ k ≠ kd) s.N s.D n _ ?_).mono ?_; (exact HBK.out); rintro e w' ⟨rfl, hb⟩)
    go_ret2
    refine ⟨rfl, F, ⟨H1.out, blk_below (blk_put H2.out 1 _ rfl) hb, HBK.out.below hb⟩, fun k hk => Or.inl hk, ((Fr.refl F w).setCell (Or.inl H1.out) _).then_below hb⟩

set_option maxHeartbeats 2000000 in
set_option maxRecDepth 100000 in
theorem deskPut_calls (kd kb : Nat) (F : Nat → Prop) (s : Desk) (n : Int) (d : ByteArray) (w : World) (h : DeskAt kd kb w F s) (hN : s.N.length < 1048576) :
    Calls Try.prog 81 #[.pointer (some ⟨kd, 0, none⟩), .int .i64 n, .string d] w fun e w' => e = .returned (.int .i64 (s.put n d).2) ∧ Goes (fun F' => DeskAt kd kb w' F' (s.put n d).1) F w w' := by
  have hb := h.bound
  obtain ⟨h1, h2, h3⟩ := h
  have hc0 := (blk_cell h2 0).trans rfl
  have hc1 := (blk_cell h2 1).trans rfl
  have hf1 := blk_frozen h2 1
  have H1 := Aside0.mk h1
  have H2 := Aside0.mk h2
  have H3 := Aside0.mk h3
  have HB := Aside0.mk hb
  by_cases h0 : s.left = 0
  · have e1 : s.put n d = (s, 11) := by unfold Desk.put; rw [if_pos h0]
    rw [e1]
    clear h1 h2 h3 e1 hb
    have ht : (s.left == 0) = true := by simp [h0]
    clear h0
    go_enter Try.func81, Try.ntmps81
    go_wp2
    go_ret
    exact ⟨rfl, F, ⟨H1.out, H2.out, H3.out⟩, fun k hk => Or.inl hk, Fr.refl F w⟩
  · have e1 : s.put n d = (⟨putN s.N n, putD s.N s.D n d, wrap64 (s.left - 1)⟩, 0) := by unfold Desk.put; rw [if_neg h0]
    rw [e1]
    have ht : (s.left == 0) = false := by simp [h0]
    have HBK := Aside0.mk (h3.setCell h2 (by decide) (by decide) (by decide) 1 (.int .i64 (wrap64 (s.left - 1))))
    clear h1 h2 h3 e1 hb h0
    obtain ⟨l, hl⟩ : ∃ l, l = s.left := ⟨_, rfl⟩
    rw [← hl] at hc1 ht H2 HBK ⊢
    clear hl
    go_enter Try.func81, Try.ntmps81
    go_wp2_with (go_at_call 19; refine (bookPut_calls kb (fun k => F k ∧ k ≠ kd) s.N s.D n d _ ?_ hN).mono ?_; (exact HBK.out); rintro e w' ⟨rfl, hbk, hfr⟩)
    go_ret
    have hkd := blk_lt H2.out
    have hsz := hfr.size
    simp only [World.size_setCell] at hsz
    refine ⟨rfl, fun k => F k ∨ (w.heap.size ≤ k ∧ k < w'.heap.size), ⟨Or.inl H1.out, ?_, ?_⟩, ?_, ?_⟩
    · exact hfr.blk (blk_put H2.out 1 _ rfl) (fun h => h.2 rfl)
    · refine hbk.mono (fun k hk => ?_) (fun k hk => ?_)
      · rcases hk with hk | hk
        · exact ⟨Or.inl hk.1, hk.2⟩
        · simp only [World.size_setCell] at hk
          exact ⟨Or.inr hk, by omega⟩
      · rcases hk.1 with h | h
        · have := HB.out k h; omega
        · exact h.2
    · intro k hk
      rcases hk with hk | hk
      · exact Or.inl hk
      · exact Or.inr hk.1
    · exact ((Fr.refl F w).setCell (Or.inl H1.out) _).trans hfr (fun k _ hk => hk.1)
end Go.Proofs.Ytonbipaajhokfaa
