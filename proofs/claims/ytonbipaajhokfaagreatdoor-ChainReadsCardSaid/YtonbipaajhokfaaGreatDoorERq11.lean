/-
  Of this claim's texts, laid together by wip/gen/squeeze.py: N7 N8 N9 N10 N11 N12 R0.
-/
import Derived.Test.YtonbipaajhokfaaGreatDoorERq10
section
set_option linter.unusedVariables false
set_option linter.unusedSimpArgs false
namespace Go.Proofs.YtonbipaajhokfaaGreatDoor
open Go.RowKit Go.Proofs.YtonbipaajhokfaaGreatDoorW.PrintWords Go.Proofs.YtonbipaajhokfaaGreatDoorW.PrintLast Go.Proofs.YtonbipaajhokfaaGreatDoorW.PrintMore
variable {St : Type}
theorem cell_calls (P : Pg St) (F : Nat → Prop) (s : St) (v : List UInt8) (w : World) (h : P.At w F s) (hok : P.ok s) (hm : v.length ≤ 9223372036854775807) :
    Calls Tryz.prog 13 #[.iface P.T P.x, .string (bs v)] w fun e w' => e = .returned (.tuple #[.agg #[.int .i64 (P.cell s v).2.1.1, .string (P.cell s v).2.1.2.1, .int .i64 (P.cell s v).2.1.2.2], .int .i64 (P.cell s v).2.2]) ∧ Goes (fun F' => P.At w' F' (P.cell s v).1) F w w' := by
  by_cases h1 : 5000 < v.length
  · rw [show P.cell s v = (s, (0, ⟨#[]⟩, 0), 47) by unfold Pg.cell; rw [if_pos h1]]
    exact cell_long P F s (bs v) w h (by rw [bs_size]; exact h1) (by rw [bs_size]; exact hm)
  · by_cases h2 : v.length ≤ 40
    · rw [show P.cell s v = (s, ((v.length : Int), bs v, 0), 0) by unfold Pg.cell; rw [if_neg h1, if_pos h2]]
      exact cell_short P F s v w h h2
    · exact cell_chain P F s v w h hok (by omega) (by omega)
def isKind (pg : List UInt8) : Bool := Lib.hasPrefix pg [3]
/-- The next page's number, of a page. -/
def nextOf (pg : List UInt8) : Int := beV ((pg.drop 1).take 4)
def restOk (pg : List UInt8) (left : Nat) : Bool := ((pg.drop 5).drop left).all (· == 0)
/-- Whether a page is one of a chain of which so many bytes are left. -/
def pageOk (pg : List UInt8) (left : Nat) : Bool := isKind pg && ((nextOf pg == 0) == decide (left ≤ 227)) && restOk pg left
/-- Following a chain, k parts left. -/
def Pg.follow (P : Pg St) : Nat → St → Int → Nat → List UInt8 → List Int → St × List UInt8 × List Int × Int
  | 0, s, _, _, out, l => (s, out, l, 0)
  | k + 1, s, at_, left, out, l =>
    if (P.get s at_).2.2 ≠ 0 then ((P.get s at_).1, [], [], (P.get s at_).2.2)
    else if pageOk (P.get s at_).2.1.data.toList left = false then ((P.get s at_).1, [], [], 30)
    else P.follow k (P.get s at_).1 (nextOf (P.get s at_).2.1.data.toList) (left - 227) (out ++ ((P.get s at_).2.1.data.toList.drop 5).take left) (l ++ [at_])
def Pg.walk (P : Pg St) (s : St) (c : Cel) : St × List UInt8 × List Int × Int :=
  if cellGood c.1 c.2.1 c.2.2 = false then (s, [], [], 1)
  else if c.2.2 = 0 then (s, c.2.1.data.toList, [], 0)
  else P.follow (parts c.1.toNat) s c.2.2 c.1.toNat [] []
theorem nextOf_bd (pg : List UInt8) : 0 ≤ nextOf pg ∧ nextOf pg < 4294967296 := by
  have h1 : ((pg.drop 1).take 4).length ≤ 4 := by rw [List.length_take]; omega
  have h2 := beV_bd _ ((pg.drop 1).take 4) rfl
  refine ⟨h2.1, Int.lt_of_lt_of_le h2.2 ?_⟩
  rcases (by omega : ((pg.drop 1).take 4).length = 0 ∨ ((pg.drop 1).take 4).length = 1 ∨ ((pg.drop 1).take 4).length = 2 ∨ ((pg.drop 1).take 4).length = 3 ∨ ((pg.drop 1).take 4).length = 4) with h | h | h | h | h <;> rw [h] <;> decide
theorem follow_err {P : Pg St} {s s1 : St} {at_ e1 : Int} {d : ByteArray} {left k : Nat} {out : List UInt8} {l : List Int} (h : (s1, d, e1) = P.get s at_) (he : e1 ≠ 0) : P.follow (k + 1) s at_ left out l = (s1, [], [], e1) := by
  unfold Pg.follow; rw [← h]; dsimp only; rw [if_pos he]
theorem follow_bad {P : Pg St} {s s1 : St} {at_ e1 : Int} {pg : List UInt8} {left k : Nat} {out : List UInt8} {l : List Int} (h : (s1, bs pg, e1) = P.get s at_) (he : e1 = 0) (hp : pageOk pg left = false) : P.follow (k + 1) s at_ left out l = (s1, [], [], 30) := by
  unfold Pg.follow; rw [← h]; dsimp only; rw [if_neg (by simp [he]), bs_list, if_pos hp]
theorem follow_step {P : Pg St} {s s1 : St} {at_ e1 : Int} {pg : List UInt8} {left k : Nat} {out : List UInt8} {l : List Int} (h : (s1, bs pg, e1) = P.get s at_) (he : e1 = 0) (hp : pageOk pg left = true) :
    P.follow (k + 1) s at_ left out l = P.follow k s1 (nextOf pg) (left - 227) (out ++ (pg.drop 5).take left) (l ++ [at_]) := by
  conv => lhs; unfold Pg.follow
  rw [← h]; dsimp only; rw [if_neg (by simp [he]), bs_list, if_neg (by simp [hp])]
theorem prefix_calls (pg : List UInt8) (w : World) : Calls Tryz.prog 45 #[.string (bs pg), .string ⟨#[3]⟩] w fun e w' => e = .returned (.bool (isKind pg)) ∧ w = w' :=
  (Tryz.strings_HasPrefix (bs pg) ⟨#[3]⟩ w).mono fun e w' h => ⟨by rw [h.1, bs_list]; rfl, h.2.symm⟩
theorem dw_nil {p : UInt8 → Bool} (l : List UInt8) : l.dropWhile p = [] ↔ ∀ x ∈ l, p x = true := by
  induction l with
  | nil => simp
  | cons a r ih =>
    cases h : p a with
    | true => simp [List.dropWhile_cons, h, ih]
    | false => simp [List.dropWhile_cons, h]
theorem trimB_nil (l : List UInt8) : Lib.trimB l 0 = [] ↔ l.all (· == 0) = true := by
  unfold Lib.trimB Lib.trimLeftB Lib.trimRightB
  constructor
  · intro h
    rw [dw_nil] at h
    rw [List.all_eq_true]
    have h2 : l.reverse.dropWhile (· == 0) = [] := by
      cases hd : l.reverse.dropWhile (· == 0) with
      | nil => rfl
      | cons x r =>
        have h3 := h x (by rw [hd]; simp)
        have h4 := List.head_dropWhile_not (l := l.reverse) (fun b : UInt8 => b == 0) (by rw [hd]; simp)
        simp only [hd, List.head_cons] at h4
        rw [h3] at h4
        cases h4
    rw [dw_nil] at h2
    exact fun x hx => h2 x (by simpa using hx)
  · intro h
    rw [List.all_eq_true] at h
    have h2 : l.reverse.dropWhile (· == 0) = [] := by
      rw [dw_nil]
      exact fun x hx => h x (by simpa using hx)
    rw [h2]
    rfl
/-- Trim's answer where all bytes are noughts, and where not. -/
theorem trim_calls (l : List UInt8) (hl : l.length ≤ 1000000) (w : World) : Calls Tryz.prog 46 #[.string (bs l), .string ⟨#[0]⟩] w fun e w' => e = .returned (.string (bs (Lib.trimB l 0))) ∧ Below w.heap.size w w' :=
  (Tryz.strings_Trim_one (bs l) 0 (by decide) w (by rw [bs_size]; omega)).mono fun e w' h => ⟨by rw [h.1, bs_list]; rfl, by rcases h.2 with rfl | rfl; exact Below.refl _ _; exact (Below.refl _ _).drew⟩
end Go.Proofs.YtonbipaajhokfaaGreatDoor
end
section
set_option linter.unusedVariables false
set_option linter.unusedSimpArgs false
namespace Go.Proofs.YtonbipaajhokfaaGreatDoor
open Go.RowKit Go.Proofs.YtonbipaajhokfaaGreatDoorW.PrintWords Go.Proofs.YtonbipaajhokfaaGreatDoorW.PrintLast Go.Proofs.YtonbipaajhokfaaGreatDoorW.PrintMore
variable {St : Type}
/-- What chain.walk leaves: the value, the list of pages in a row of the call's own. -/
def WalkPost (P : Pg St) (F : Nat → Prop) (w : World) (r : St × List UInt8 × List Int × Int) (e : Ending) (w' : World) : Prop :=
  ∃ vl, e = .returned (.tuple #[.string (bs r.2.1), vl, .int .i64 r.2.2.2]) ∧ ∃ F' : Nat → Prop, P.At w' F' r.1 ∧ (∀ k, F' k → F k ∨ w.heap.size ≤ k) ∧ Fr F w w' ∧
    (Kd.int .i64).R 3 w' 0 (fun k => ¬ F' k ∧ w.heap.size ≤ k) vl r.2.2.1
/-- What holds at the head of chain.walk's loop. -/
structure WkRel (P : Pg St) (F : Nat → Prop) (w wr : World) (b : Nat) (s' : St) (F' G : Nat → Prop) (out : List UInt8) (vl : Value) (l : List Int) : Prop where
  two : Two (P.At · · s') F F' w wr
  ok : P.ok s'
  bld : BldAt wr G b out
  apart : ∀ k, G k → ¬ F' k ∧ w.heap.size ≤ k
  row : (Kd.int .i64).R 3 wr 0 (fun k => ¬ F' k ∧ ¬ G k ∧ w.heap.size ≤ k) vl l
section
variable {P : Pg St} {F : Nat → Prop} {w wr w1 : World} {b : Nat} {s' s1 : St} {F' F1 G G1 : Nat → Prop} {out out1 : List UInt8} {vl : Value} {l : List Int}
theorem WkRel.call (h : WkRel P F w wr b s' F' G out vl l) (k : Two (P.At · · s1) F' F1 wr w1) (hok : P.ok s1) : WkRel P F w w1 b s1 F1 G out vl l where
  two := h.two.trans k
  ok := hok
  bld := h.bld.keep (fun i hi => k.2.2.block i (h.bld.2.1 i hi) (h.apart i hi).1) k.2.2.size
  apart := fun i hi => ⟨fun hf => by rcases k.2.1 i hf with h1 | h1; exact (h.apart i hi).1 h1; have := h.bld.2.1 i hi; omega, (h.apart i hi).2⟩
  row := by
    have h1 := Kd.R_step (Kd.R_bound h.row) (w1 := w1) (fun i ho hlt => k.2.2.block i hlt ho.1.1)
    exact Kd.R_mono h1 (fun i hi => ⟨fun hf => by rcases k.2.1 i hf with h1 | h1; exact hi.1.1 h1; have := hi.2.2.1; omega, hi.1.2.1, hi.1.2.2⟩)
theorem WkRel.below (h : WkRel P F w wr b s' F' G out vl l) (hb : Below wr.heap.size wr w1) : WkRel P F w w1 b s' F' G out vl l where
  two := h.two.below2 hb
  ok := h.ok
  bld := h.bld.below hb
  apart := h.apart
  row := Kd.R_below h.row hb
theorem WkRel.wrote (h : WkRel P F w wr b s' F' G out vl l) (hb : BldAt w1 G1 b out1) (hG : ∀ k, G1 k → G k ∨ wr.heap.size ≤ k) (hf : Fr G wr w1) : WkRel P F w w1 b s' F' G1 out1 vl l where
  two := ⟨P.keep h.two.1 (fun k hk => hf.block k (P.bound h.two.1 k hk) (fun hg => (h.apart k hg).1 hk)) hf.size, h.two.2.1, h.two.2.2.trans (F' := G) hf (fun k hk hg => absurd (h.apart k hg).2 (by omega))⟩
  ok := h.ok
  bld := hb
  apart := fun k hk => by
    rcases hG k hk with h1 | h1
    · exact h.apart k h1
    · have := h.two.2.2.size
      exact ⟨fun hf' => by have := P.bound h.two.1 k hf'; omega, by omega⟩
  row := by
    have h1 := Kd.R_step (Kd.R_bound h.row) (w1 := w1) (fun i ho hlt => hf.block i hlt ho.1.2.1)
    exact Kd.R_mono h1 (fun i hi => ⟨hi.1.1, fun hg => by rcases hG i hg with h1 | h1; exact hi.1.2.1 h1; have := hi.2.2.1; omega, hi.1.2.2⟩)
theorem WkRel.fresh (h : WkRel P F w wr b s' F' G out vl l) : ∀ k, wr.heap.size ≤ k → ¬ F' k ∧ ¬ G k ∧ w.heap.size ≤ k := fun k hk =>
  ⟨fun hf => by have := P.bound h.two.1 k hf; omega, fun hg => by have := h.bld.2.1 k hg; omega, by have := h.two.2.2.size; omega⟩
theorem WkRel.listed (h : WkRel P F w wr b s' F' G out vl l) {v1 : Value} {l1 : List Int} (hR : (Kd.int .i64).R 3 w1 0 (fun k => ¬ F' k ∧ ¬ G k ∧ w.heap.size ≤ k) v1 l1) (hg : wr.grownBy w1 vl.ownBlock) : WkRel P F w w1 b s' F' G out v1 l1 where
  two := ⟨P.keep h.two.1 (fun k hk => hg.block k (P.bound h.two.1 k hk) (fun e => (h.row.1 k e.symm).1 hk)) hg.size, h.two.2.1, h.two.2.2.grown hg (fun k e => Or.inr (h.row.1 k e).2.2)⟩
  ok := h.ok
  bld := h.bld.keep (fun k hk => hg.block k (h.bld.2.1 k hk) (fun e => (h.row.1 k e.symm).2.1 hk)) hg.size
  apart := h.apart
  row := hR
end
set_option maxHeartbeats 1000000 in
set_option maxRecDepth 100000 in
theorem walk_bad (P : Pg St) (F : Nat → Prop) (s : St) (x0 : Int) (x1 : ByteArray) (x2 : Int) (w : World) (h : P.At w F s) (hg : cellGood x0 x1 x2 = false) :
    Calls Tryz.prog 28 #[.iface P.T P.x, .agg #[.int .i64 x0, .string x1, .int .i64 x2]] w (WalkPost P F w (s, [], [], 1)) := by
  have H := Aside0.mk h
  have hu := Tryz.underlying24
  have hc := fun W => chainGood_calls x0 x1 x2 W
  rw [hg] at hc
  clear h hg
  go_enter Tryz.func28, Tryz.ntmps28
  go_wp2_with (go_at_call 43; refine (hc _).mono ?_; rintro e w1 ⟨rfl, hb1⟩)
  go_ret3
  exact ⟨_, rfl, F, Pg.below H.out ((below_alloc (Below.refl _ _) _).trans (hb1.mono (by simp))), fun k hk => Or.inl hk, Fr.of_below ((below_alloc (Below.refl _ _) _).trans (hb1.mono (by simp))), Kd.R_nil _ _ _ _ _⟩
set_option maxHeartbeats 1000000 in
set_option maxRecDepth 100000 in
theorem walk_short (P : Pg St) (F : Nat → Prop) (s : St) (x0 : Int) (x1 : ByteArray) (w : World) (h : P.At w F s) (hg : cellGood x0 x1 0 = true) :
    Calls Tryz.prog 28 #[.iface P.T P.x, .agg #[.int .i64 x0, .string x1, .int .i64 0]] w (WalkPost P F w (s, x1.data.toList, [], 0)) := by
  have H := Aside0.mk h
  have hu := Tryz.underlying24
  have hc := fun W => chainGood_calls x0 x1 0 W
  rw [hg] at hc
  clear h hg
  go_enter Tryz.func28, Tryz.ntmps28
  go_wp2_with fail
  refine (hc _).mono ?_
  rintro e w1 ⟨rfl, hb1⟩
  have HK := Aside0.mk (blk_below (blk_new w (.cells #[.int .i64 x0, .string x1, .int .i64 0] 24)) hb1)
  have c1 : w1.cell? ⟨w.heap.size, 1, none⟩ = some (.string x1) := (blk_cell HK.out 1).trans rfl
  have c2 : w1.cell? ⟨w.heap.size, 2, none⟩ = some (.int .i64 0) := (blk_cell HK.out 2).trans rfl
  clear hc
  go_wp2
  go_ret3
  exact ⟨_, by rw [bs_of]; rfl, F, Pg.below H.out ((below_alloc (Below.refl _ _) _).trans (hb1.mono (by simp))), fun k hk => Or.inl hk, Fr.of_below ((below_alloc (Below.refl _ _) _).trans (hb1.mono (by simp))), Kd.R_nil _ _ _ _ _⟩
set_option maxHeartbeats 8000000 in
set_option maxRecDepth 100000 in
theorem walk_chain (P : Pg St) (F : Nat → Prop) (s : St) (x0 : Nat) (x1 : ByteArray) (x2 : Int) (w : World) (h : P.At w F s) (hok : P.ok s) (hg : cellGood x0 x1 x2 = true) (h2 : x2 ≠ 0) (h0 : 40 < x0) (h5 : x0 ≤ 5000) :
    Calls Tryz.prog 28 #[.iface P.T P.x, .agg #[.int .i64 x0, .string x1, .int .i64 x2]] w (WalkPost P F w (P.follow (parts x0) s x2 x0 [] [])) := by
  have H := Aside0.mk h
  have HOK := Aside0.mk hok
  have hu := Tryz.underlying24
  have hc := fun W => chainGood_calls x0 x1 x2 W
  rw [hg] at hc
  have t2 : (x2 == 0) = false := by simp [h2]
  have hmg := P.mg
  have heg := P.eg
  clear h hg hok h2
  go_enter Tryz.func28, Tryz.ntmps28
  go_wp2_with fail
  refine (hc _).mono ?_
  rintro e w1 ⟨rfl, hb1⟩
  have HK := Aside0.mk (blk_below (blk_new w (.cells #[.int .i64 x0, .string x1, .int .i64 x2] 24)) hb1)
  have HB1 := Aside0.mk ((below_alloc (Below.refl w.heap.size w) (.cells #[.int .i64 x0, .string x1, .int .i64 x2] 24)).trans (hb1.mono (by simp)))
  have c0 : w1.cell? ⟨w.heap.size, 0, none⟩ = some (.int .i64 x0) := (blk_cell HK.out 0).trans rfl
  have c1 : w1.cell? ⟨w.heap.size, 1, none⟩ = some (.string x1) := (blk_cell HK.out 1).trans rfl
  have c2 : w1.cell? ⟨w.heap.size, 2, none⟩ = some (.int .i64 x2) := (blk_cell HK.out 2).trans rfl
  have hlt := blk_lt HK.out
  clear hc hb1
  go_wp2
  clear c0 c1 c2 hlt
  have HREL := Aside0.mk (show WkRel P F w (w1.alloc (.cells #[.pointer none, .slice none 0 0] 89)) w1.heap.size s F (fun k => k = w1.heap.size) [] (.slice none 0 0) [] from
    ⟨⟨Pg.below (Pg.below H.out HB1.out) (below_alloc (Below.refl _ _) _), fun k hk => Or.inl hk, Fr.of_below (HB1.out.trans ((below_alloc (Below.refl _ _) _).mono HB1.out.size))⟩, HOK.out, BldAt.fresh w1, fun k hk => by
      subst hk; exact ⟨fun hf => by have := P.bound H.out _ hf; have := HB1.out.size; omega, HB1.out.size⟩, Kd.R_nil _ _ _ _ _⟩)
  obtain ⟨b, hb⟩ : ∃ b, b = w1.heap.size := ⟨_, rfl⟩
  rw [← hb] at HREL ⊢
  clear hb HK
  go_loopw [8, 9, 10] (fun vl at_ lf wr => ∃ (k : Nat) (a lft : Int) (s' : St) (F' G : Nat → Prop) (out : List UInt8) (l : List Int), at_ = .int .i64 a ∧ lf = .int .i64 lft ∧ (lft ≤ 0 ∧ k = 0 ∧ out ≠ [] ∨ 0 < lft ∧ k = parts lft.toNat) ∧ lft ≤ 5000 ∧ (out.length : Int) + lft ≤ 10000 ∧ l.length + k ≤ 30 ∧
    Aside0 (WkRel P F w wr b s' F' G out vl l ∧ P.follow k s' a lft.toNat out l = P.follow (parts x0) s x2 x0 [] [])) (fun _ _ lf _ => (intOf lf).toNat)
  case atStart => exact ⟨parts x0, x2, x0, s, F, _, [], [], rfl, rfl, Or.inr ⟨by omega, by rw [Int.toNat_natCast]⟩, by omega, by simp; omega, by unfold parts; simp; omega, ⟨HREL.out, by rw [Int.toNat_natCast]⟩⟩
  case round =>
    obtain ⟨k, a, lft, s', F', G, out, l, rfl, rfl, hcase, h5000, hlen, hk30, hA⟩ := hrel
    clear HREL HB1 H HOK
    have HR := Aside0.mk hA.out.1
    have HFO := Aside0.mk hA.out.2
    clear hA
    obtain ⟨A, c, rfl⟩ := Kd.R_slice HR.out.row
    rcases hcase with ⟨hle, hk0, hne⟩ | ⟨hpos, hkp⟩
    · have tl : decide (0 < lft) = false := decide_eq_false (by omega)
      have HNE := Aside0.mk hne
      subst hk0
      clear hne hle
      go_wp2_with fail
      refine (bldString_calls _ b out _ HR.out.bld HNE.out).mono ?_
      rintro e w2 ⟨rfl, hf2⟩
      go_wp2
      go_ret3
      rw [← HFO.out]
      exact ⟨_, rfl, F', P.keep HR.out.two.1 (fun k hk => hf2.block k (P.bound HR.out.two.1 k hk) (fun hg => (HR.out.apart k hg).1 hk)) hf2.size, HR.out.two.2.1, HR.out.two.2.2.trans (F' := G) hf2 (fun k hk hg => absurd (HR.out.apart k hg).2 (by omega)),
        Kd.R_mono (Kd.R_step HR.out.row (fun k ho hlt => hf2.block k hlt ho.2.1)) (fun k hk => ⟨hk.1, hk.2.2⟩)⟩
    · obtain ⟨L, rfl⟩ := Int.eq_ofNat_of_zero_le (show 0 ≤ lft by omega)
      rw [Int.toNat_natCast] at hkp HFO
      have tl : decide ((0 : Int) < (L : Int)) = true := decide_eq_true hpos
      have tl' : decide (0 < L) = true := decide_eq_true (by omega)
      obtain ⟨k, rfl⟩ : ∃ m, k = m + 1 := ⟨k - 1, by unfold parts at hkp; omega⟩
      have HKP := Aside0.mk hkp
      have hL0 : 0 < L := by omega
      clear hkp hpos
      have hcg := P.cg a HR.out.two.1 HR.out.ok
      have hok1 := P.ok_get a HR.out.ok
      have hfull := P.full a HR.out.ok
      obtain ⟨⟨s1, d, e1⟩, hr⟩ : ∃ r, r = P.get s' a := ⟨_, rfl⟩
      rw [← hr] at hcg hok1 hfull
      dsimp only at hcg hok1 hfull
      have HGET := Aside0.mk hr
      have HCG := Aside0.mk hcg
      have HOK1 := Aside0.mk hok1
      have HFULL := Aside0.mk hfull
      clear hr hcg hok1 hfull
      go_wp2_with fail
      refine HCG.out.mono ?_
      rintro e w2 ⟨rfl, F1, hA1, hF1, hR1⟩
      replace HR := Aside0.mk (HR.out.call (Two.of hA1 hF1 hR1) HOK1.out)
      clear HCG hA1 hF1 hR1 HOK1
      by_cases he : e1 = 0
      · have te : (e1 != 0) = false := by simp [he]
        have HE1 := Aside0.mk he
        obtain ⟨pg, rfl⟩ : ∃ pg, d = bs pg := ⟨d.data.toList, (bs_of d).symm⟩
        have hpl : pg.length = 232 := by have := HFULL.out he; rwa [bs_size] at this
        have hsz : (bs pg).size = 232 := by rw [bs_size]; exact hpl
        have hx1 := bs_extract pg 1 5
        have hx2 := bs_extract pg 5 232
        rw [show (232 - 5 : Nat) = 227 from rfl, List.take_of_length_le (by rw [List.length_drop]; omega)] at hx2
        obtain ⟨hd, hhd⟩ : ∃ hd, hd = (pg.drop 1).take 4 := ⟨_, rfl⟩
        obtain ⟨bd, hbd⟩ : ∃ bd, bd = pg.drop 5 := ⟨_, rfl⟩
        rw [show (5 - 1 : Nat) = 4 from rfl, ← hhd] at hx1
        rw [← hbd] at hx2
        have hbl : (bs bd).size = 227 := by rw [bs_size, hbd, List.length_drop]; omega
        have hnb := nextOf_bd pg
        have hun := fun W => unfixed_ok (bs hd) W (by rw [bs_size, hhd, List.length_take, List.length_drop]; omega) (by rw [bs_size, hhd, List.length_take]; omega)
        rw [bs_list, hhd, show beV ((pg.drop 1).take 4) = nextOf pg from rfl, ← hhd] at hun
        obtain ⟨nx, hnx⟩ : ∃ nx, nx = nextOf pg := ⟨_, rfl⟩
        rw [← hnx] at hnb hun
        obtain ⟨hn0, hn1⟩ := hnb
        have HUN := Aside0.mk hun
        have HHD := Aside0.mk hhd
        have HBD := Aside0.mk hbd
        have HNX := Aside0.mk hnx
        have HPL := Aside0.mk hpl
        have hpo : pageOk pg L = (isKind pg && ((nx == 0) == decide (L ≤ 227)) && (bd.drop L).all (· == 0)) := by unfold pageOk restOk; rw [hnx, hbd]
        have HPO := Aside0.mk hpo
        clear hun hhd hbd hnx hpl he hpo HFULL
        go_wp2_with fail
        refine (HUN.out _).mono ?_
        rintro e w3 ⟨rfl, hb3⟩
        replace HR := Aside0.mk (HR.out.below hb3)
        clear HUN hb3
        by_cases h227 : L < 227
        · have tw : decide ((L : Int) < 227) = true := decide_eq_true (by omega)
          have twn : decide (L < 227) = true := decide_eq_true h227
          have tle : decide ((L : Int) ≤ 227) = true := decide_eq_true (by omega)
          have hLI : (L : Int) ≤ 227 := by omega
          have hLI0 : (0 : Int) ≤ (L : Int) := by omega
          have hy1 := bs_extract bd 0 L
          have hy2 := bs_extract bd L 227
          rw [Nat.sub_zero, List.drop_zero] at hy1
          rw [List.take_of_length_le (show (bd.drop L).length ≤ 227 - L by have := hbl; rw [bs_size] at this; rw [List.length_drop]; omega)] at hy2
          obtain ⟨pt, hpt⟩ : ∃ pt, pt = bd.take L := ⟨_, rfl⟩
          obtain ⟨rs, hrs⟩ : ∃ rs, rs = bd.drop L := ⟨_, rfl⟩
          rw [← hpt] at hy1
          rw [← hrs] at hy2
          have hbl' : bd.length = 227 := by rw [← bs_size]; exact hbl
          have hp1 : 1 ≤ pt.length := by rw [hpt, List.length_take]; omega
          have hp2 : pt.length ≤ 227 := by rw [hpt, List.length_take]; omega
          have hp3 : pt.length ≤ L := by rw [hpt, List.length_take]; omega
          have HPT := Aside0.mk (show pt = (pg.drop 5).take L by rw [hpt, HBD.out])
          have HRS := Aside0.mk hrs
          have htr := fun V => trim_calls rs (by rw [hrs, List.length_drop]; omega) V
          have HTR := Aside0.mk htr
          clear hpt hrs htr hbl'
          go_wp2_with fail
          go_quiet (fail)
          replace HR := Aside0.mk (HR.out.below (pw_below_drewN (Below.refl _ _) nq))
          clear hy1 hy2
          cases hk : isKind pg with
          | false =>
            have HKB := Aside0.mk hk
            clear hk
            go_wp2_with fail
            have hpc := fun V => prefix_calls pg V
            rw [HKB.out] at hpc
            refine (hpc _).mono ?_
            rintro e w4 ⟨rfl, rfl⟩
            clear hpc
            go_wp2
            go_ret3
            rw [← HFO.out, follow_bad HGET.out HE1.out (by rw [HPO.out, HKB.out]; rfl)]
            exact ⟨_, rfl, F1, HR.out.two.1, HR.out.two.2.1, HR.out.two.2.2, Kd.R_nil _ _ _ _ _⟩
          | true =>
            have HKB := Aside0.mk hk
            clear hk
            have HLE := Aside0.mk (show decide (L ≤ 227) = true from decide_eq_true (by omega))
            by_cases hn : nx = 0
            · have tn : (nx == 0) = true := by simp [hn]
              have HNE := Aside0.mk tn
              clear hn
              cases hz : rs.all (· == 0) with
              | true =>
                have HZ := Aside0.mk hz
                rw [(trimB_nil rs).2 hz, show bs [] = (⟨#[]⟩ : ByteArray) from rfl] at HTR
                clear hz
                go_wp2_with fail
                have hpc := fun V => prefix_calls pg V
                rw [HKB.out] at hpc
                refine (hpc _).mono ?_
                rintro e w4 ⟨rfl, rfl⟩
                clear hpc
                go_wp2_with fail
                refine (HTR.out _).mono ?_
                rintro e w5 ⟨rfl, hb5⟩
                replace HR := Aside0.mk (HR.out.below hb5)
                clear hb5
                go_wp2_with fail
                refine (bldWrite_calls G b out (bs pt) _ HR.out.bld (by rw [bs_size]; omega)).mono ?_
                rintro e w6 ⟨rfl, G6, hB6, hG6, hf6⟩
                rw [bs_list] at hB6
                replace HR := Aside0.mk (HR.out.wrote hB6 hG6 hf6)
                clear hB6 hG6 hf6
                go_wp2_with (at_builtin; refine Kd.R_append (Kd.int .i64) (w0 := w6) 0 rfl (.tmp 77) (.tmp 79) 33 3 (.int .i64 0) 8 rfl Tryz.underlying33 info3 rfl (by decide) (by decide) (.slice A l.length c) _ a [.int .i64 a] (fun k => ¬ F1 k ∧ ¬ G6 k ∧ w.heap.size ≤ k) (fun k => some k ≠ (Value.slice A l.length c).ownBlock ∧ (¬ F1 k ∧ ¬ G6 k ∧ w.heap.size ≤ k)) rfl rfl rfl (fun _ h => ⟨h.2, h.1⟩) (fun _ hk => HR.out.fresh _ hk) HR.out.row (Below.refl 0 w6) (Nat.zero_le _) (by omega) ?_; intro v1 w7 hR7 hB7 hG7 hat7; have HR7 := Aside0.mk (HR.out.listed hR7 hG7); obtain ⟨A7, c7, hv7⟩ := Kd.R_slice hR7; subst hv7; clear hR7 hB7 hG7 hat7)
                have HST := Aside0.mk (follow_step (k := k) (out := out) (l := l) HGET.out HE1.out (show pageOk pg L = true by rw [HPO.out, HKB.out, HNE.out, HLE.out, ← HRS.out, HZ.out]; rfl))
                go_roundw
                case rel => exact ⟨k, nx, (L : Int) - 227, s1, F1, G6, out ++ pt, l ++ [a], rfl, rfl, Or.inl ⟨by omega, by have := HKP.out; unfold parts at this; omega, fun hh => by have := congrArg List.length hh; rw [List.length_append, List.length_nil] at this; omega⟩, by omega, by rw [List.length_append]; omega, by rw [List.length_append, List.length_singleton]; omega, ⟨by have := HR7.out; rw [List.length_append, List.length_singleton] at this; exact this, by rw [← HFO.out, HST.out, HNX.out, ← HPT.out, show ((L : Int) - 227).toNat = L - 227 from by omega]⟩⟩
                case measure => simp [intOf]; omega
              | false =>
                have HZ := Aside0.mk hz
                obtain ⟨tr, htd⟩ : ∃ tr, tr = Lib.trimB rs 0 := ⟨_, rfl⟩
                rw [← htd] at HTR
                have hts : (bs tr).size ≠ 0 := by
                  rw [bs_size, htd]
                  intro hh
                  have := (trimB_nil rs).1 (List.eq_nil_of_length_eq_zero hh)
                  rw [hz] at this
                  cases this
                have tz1 := ba_toList_nil hts
                have tz2 : (bs tr).toList.isEmpty = false := by rw [List.isEmpty_eq_false_iff]; exact tz1
                clear hz htd hts
                go_wp2_with fail
                have hpc := fun V => prefix_calls pg V
                rw [HKB.out] at hpc
                refine (hpc _).mono ?_
                rintro e w4 ⟨rfl, rfl⟩
                clear hpc
                go_wp2_with fail
                refine (HTR.out _).mono ?_
                rintro e w5 ⟨rfl, hb5⟩
                replace HR := Aside0.mk (HR.out.below hb5)
                clear hb5
                go_wp2
                go_ret3
                rw [← HFO.out, follow_bad HGET.out HE1.out (by rw [HPO.out, HKB.out, HNE.out, HLE.out, ← HRS.out, HZ.out]; rfl)]
                exact ⟨_, rfl, F1, HR.out.two.1, HR.out.two.2.1, HR.out.two.2.2, Kd.R_nil _ _ _ _ _⟩
            · have tn : (nx == 0) = false := by simp [hn]
              have HNE := Aside0.mk tn
              clear hn
              go_wp2_with fail
              have hpc := fun V => prefix_calls pg V
              rw [HKB.out] at hpc
              refine (hpc _).mono ?_
              rintro e w4 ⟨rfl, rfl⟩
              clear hpc
              go_wp2
              go_ret3
              rw [← HFO.out, follow_bad HGET.out HE1.out (by rw [HPO.out, HKB.out, HNE.out, HLE.out]; rfl)]
              exact ⟨_, rfl, F1, HR.out.two.1, HR.out.two.2.1, HR.out.two.2.2, Kd.R_nil _ _ _ _ _⟩
        · have tw : decide ((L : Int) < 227) = false := decide_eq_false (by omega)
          have twn : decide (L < 227) = false := decide_eq_false h227
          have hbl' : bd.length = 227 := by rw [← bs_size]; exact hbl
          have HPT := Aside0.mk (show bd = (pg.drop 5).take L by rw [← HBD.out, List.take_of_length_le (by omega)])
          have HRS := Aside0.mk (show ([] : List UInt8) = bd.drop L by rw [List.drop_of_length_le (by omega)])
          have htr := fun V => trim_calls [] (by simp) V
          rw [show Lib.trimB [] 0 = [] from rfl, show bs [] = (⟨#[]⟩ : ByteArray) from rfl] at htr
          have HTR := Aside0.mk htr
          have hp1 : 1 ≤ bd.length := by omega
          have hp2 : bd.length ≤ 227 := by omega
          have hp3 : bd.length ≤ L := by omega
          clear htr hbl'
          go_wp2_with fail
          cases hk : isKind pg with
          | false =>
            have HKB := Aside0.mk hk
            clear hk
            go_wp2_with fail
            have hpc := fun V => prefix_calls pg V
            rw [HKB.out] at hpc
            refine (hpc _).mono ?_
            rintro e w4 ⟨rfl, rfl⟩
            clear hpc
            go_wp2
            go_ret3
            rw [← HFO.out, follow_bad HGET.out HE1.out (by rw [HPO.out, HKB.out]; rfl)]
            exact ⟨_, rfl, F1, HR.out.two.1, HR.out.two.2.1, HR.out.two.2.2, Kd.R_nil _ _ _ _ _⟩
          | true =>
            have HKB := Aside0.mk hk
            clear hk
            by_cases hle : L ≤ 227
            · have HLE := Aside0.mk (show decide (L ≤ 227) = true from decide_eq_true hle)
              have tle : decide ((L : Int) ≤ 227) = true := decide_eq_true (by omega)
              by_cases hn : nx = 0
              · have tn : (nx == 0) = true := by simp [hn]
                have HNE := Aside0.mk tn
                clear hn
                have HZ : Aside0 (([] : List UInt8).all (· == 0) = true) := ⟨rfl⟩
                go_wp2_with fail
                have hpc := fun V => prefix_calls pg V
                rw [HKB.out] at hpc
                refine (hpc _).mono ?_
                rintro e w4 ⟨rfl, rfl⟩
                clear hpc
                go_wp2_with fail
                refine (HTR.out _).mono ?_
                rintro e w5 ⟨rfl, hb5⟩
                replace HR := Aside0.mk (HR.out.below hb5)
                clear hb5
                go_wp2_with fail
                refine (bldWrite_calls G b out (bs bd) _ HR.out.bld (by rw [bs_size]; omega)).mono ?_
                rintro e w6 ⟨rfl, G6, hB6, hG6, hf6⟩
                rw [bs_list] at hB6
                replace HR := Aside0.mk (HR.out.wrote hB6 hG6 hf6)
                clear hB6 hG6 hf6
                go_wp2_with (at_builtin; refine Kd.R_append (Kd.int .i64) (w0 := w6) 0 rfl (.tmp 77) (.tmp 79) 33 3 (.int .i64 0) 8 rfl Tryz.underlying33 info3 rfl (by decide) (by decide) (.slice A l.length c) _ a [.int .i64 a] (fun k => ¬ F1 k ∧ ¬ G6 k ∧ w.heap.size ≤ k) (fun k => some k ≠ (Value.slice A l.length c).ownBlock ∧ (¬ F1 k ∧ ¬ G6 k ∧ w.heap.size ≤ k)) rfl rfl rfl (fun _ h => ⟨h.2, h.1⟩) (fun _ hk => HR.out.fresh _ hk) HR.out.row (Below.refl 0 w6) (Nat.zero_le _) (by omega) ?_; intro v1 w7 hR7 hB7 hG7 hat7; have HR7 := Aside0.mk (HR.out.listed hR7 hG7); obtain ⟨A7, c7, hv7⟩ := Kd.R_slice hR7; subst hv7; clear hR7 hB7 hG7 hat7)
                have HST := Aside0.mk (follow_step (k := k) (out := out) (l := l) HGET.out HE1.out (show pageOk pg L = true by rw [HPO.out, HKB.out, HNE.out, HLE.out, ← HRS.out, HZ.out]; rfl))
                go_roundw
                case rel => exact ⟨k, nx, (L : Int) - 227, s1, F1, G6, out ++ bd, l ++ [a], rfl, rfl, Or.inl ⟨by omega, by have := HKP.out; unfold parts at this; omega, fun hh => by have := congrArg List.length hh; rw [List.length_append, List.length_nil] at this; omega⟩, by omega, by rw [List.length_append]; omega, by rw [List.length_append, List.length_singleton]; omega, ⟨by have := HR7.out; rw [List.length_append, List.length_singleton] at this; exact this, by rw [← HFO.out, HST.out, HNX.out, ← HPT.out, show ((L : Int) - 227).toNat = L - 227 from by omega]⟩⟩
                case measure => simp [intOf]; omega
              · have tn : (nx == 0) = false := by simp [hn]
                have HNE := Aside0.mk tn
                clear hn
                go_wp2_with fail
                have hpc := fun V => prefix_calls pg V
                rw [HKB.out] at hpc
                refine (hpc _).mono ?_
                rintro e w4 ⟨rfl, rfl⟩
                clear hpc
                go_wp2
                go_ret3
                rw [← HFO.out, follow_bad HGET.out HE1.out (by rw [HPO.out, HKB.out, HNE.out, HLE.out]; rfl)]
                exact ⟨_, rfl, F1, HR.out.two.1, HR.out.two.2.1, HR.out.two.2.2, Kd.R_nil _ _ _ _ _⟩
            · have HLE := Aside0.mk (show decide (L ≤ 227) = false from decide_eq_false hle)
              have tle : decide ((L : Int) ≤ 227) = false := decide_eq_false (by omega)
              by_cases hn : nx = 0
              · have tn : (nx == 0) = true := by simp [hn]
                have HNE := Aside0.mk tn
                clear hn
                go_wp2_with fail
                have hpc := fun V => prefix_calls pg V
                rw [HKB.out] at hpc
                refine (hpc _).mono ?_
                rintro e w4 ⟨rfl, rfl⟩
                clear hpc
                go_wp2
                go_ret3
                rw [← HFO.out, follow_bad HGET.out HE1.out (by rw [HPO.out, HKB.out, HNE.out, HLE.out]; rfl)]
                exact ⟨_, rfl, F1, HR.out.two.1, HR.out.two.2.1, HR.out.two.2.2, Kd.R_nil _ _ _ _ _⟩
              · have tn : (nx == 0) = false := by simp [hn]
                have HNE := Aside0.mk tn
                clear hn
                have HZ : Aside0 (([] : List UInt8).all (· == 0) = true) := ⟨rfl⟩
                go_wp2_with fail
                have hpc := fun V => prefix_calls pg V
                rw [HKB.out] at hpc
                refine (hpc _).mono ?_
                rintro e w4 ⟨rfl, rfl⟩
                clear hpc
                go_wp2_with fail
                refine (HTR.out _).mono ?_
                rintro e w5 ⟨rfl, hb5⟩
                replace HR := Aside0.mk (HR.out.below hb5)
                clear hb5
                go_wp2_with fail
                refine (bldWrite_calls G b out (bs bd) _ HR.out.bld (by rw [bs_size]; omega)).mono ?_
                rintro e w6 ⟨rfl, G6, hB6, hG6, hf6⟩
                rw [bs_list] at hB6
                replace HR := Aside0.mk (HR.out.wrote hB6 hG6 hf6)
                clear hB6 hG6 hf6
                go_wp2_with (at_builtin; refine Kd.R_append (Kd.int .i64) (w0 := w6) 0 rfl (.tmp 77) (.tmp 79) 33 3 (.int .i64 0) 8 rfl Tryz.underlying33 info3 rfl (by decide) (by decide) (.slice A l.length c) _ a [.int .i64 a] (fun k => ¬ F1 k ∧ ¬ G6 k ∧ w.heap.size ≤ k) (fun k => some k ≠ (Value.slice A l.length c).ownBlock ∧ (¬ F1 k ∧ ¬ G6 k ∧ w.heap.size ≤ k)) rfl rfl rfl (fun _ h => ⟨h.2, h.1⟩) (fun _ hk => HR.out.fresh _ hk) HR.out.row (Below.refl 0 w6) (Nat.zero_le _) (by omega) ?_; intro v1 w7 hR7 hB7 hG7 hat7; have HR7 := Aside0.mk (HR.out.listed hR7 hG7); obtain ⟨A7, c7, hv7⟩ := Kd.R_slice hR7; subst hv7; clear hR7 hB7 hG7 hat7)
                have HST := Aside0.mk (follow_step (k := k) (out := out) (l := l) HGET.out HE1.out (show pageOk pg L = true by rw [HPO.out, HKB.out, HNE.out, HLE.out, ← HRS.out, HZ.out]; rfl))
                go_roundw
                case rel => exact ⟨k, nx, (L : Int) - 227, s1, F1, G6, out ++ bd, l ++ [a], rfl, rfl, Or.inr ⟨by omega, by have := HKP.out; unfold parts at this ⊢; omega⟩, by omega, by rw [List.length_append]; omega, by rw [List.length_append, List.length_singleton]; omega, ⟨by have := HR7.out; rw [List.length_append, List.length_singleton] at this; exact this, by rw [← HFO.out, HST.out, HNX.out, ← HPT.out, show ((L : Int) - 227).toNat = L - 227 from by omega]⟩⟩
                case measure => simp [intOf]; omega
      · have te : (e1 != 0) = true := by simp [he]
        clear HFULL
        go_wp2
        go_ret3
        rw [← HFO.out, follow_err HGET.out he]
        exact ⟨_, rfl, F1, HR.out.two.1, HR.out.two.2.1, HR.out.two.2.2, Kd.R_nil _ _ _ _ _⟩
end Go.Proofs.YtonbipaajhokfaaGreatDoor
end
section
set_option linter.unusedVariables false
set_option linter.unusedSimpArgs false
namespace Go.Proofs.YtonbipaajhokfaaGreatDoor
open Go.RowKit Go.Proofs.YtonbipaajhokfaaGreatDoorW.PrintWords Go.Proofs.YtonbipaajhokfaaGreatDoorW.PrintLast Go.Proofs.YtonbipaajhokfaaGreatDoorW.PrintMore
variable {St : Type}
theorem cellGood_long {x0 : Int} {x1 : ByteArray} {x2 : Int} (h : cellGood x0 x1 x2 = true) (h2 : x2 ≠ 0) : 40 < x0 ∧ x0 ≤ 5000 ∧ 1 ≤ x2 ∧ x2 < 4096 ∧ x1 = ⟨#[]⟩ := by
  unfold cellGood at h
  split at h
  · cases h
  · rename_i h3
    split at h
    · simp [h2] at h
    · simp only [Bool.and_eq_true, decide_eq_true_eq] at h
      have h4 := (pageB_iff x2).1 h.2
      exact ⟨by omega, by omega, h4.1, h4.2, by apply ByteArray.ext; exact Array.eq_empty_of_size_eq_zero h.1⟩
theorem cellGood_short {x0 : Int} {x1 : ByteArray} (h : cellGood x0 x1 0 = true) : 0 ≤ x0 ∧ x0 ≤ 40 ∧ (x1.size : Int) = x0 := by
  unfold cellGood at h
  split at h
  · cases h
  · split at h
    · simp at h; omega
    · simp only [Bool.and_eq_true, decide_eq_true_eq] at h
      have h4 := (pageB_iff 0).1 h.2
      omega
theorem walk_calls (P : Pg St) (F : Nat → Prop) (s : St) (x0 : Int) (x1 : ByteArray) (x2 : Int) (w : World) (h : P.At w F s) (hok : P.ok s) :
    Calls Tryz.prog 28 #[.iface P.T P.x, .agg #[.int .i64 x0, .string x1, .int .i64 x2]] w (WalkPost P F w (P.walk s (x0, x1, x2))) := by
  cases hg : cellGood x0 x1 x2 with
  | false =>
    rw [show P.walk s (x0, x1, x2) = (s, [], [], 1) by unfold Pg.walk; rw [if_pos hg]]
    exact walk_bad P F s x0 x1 x2 w h hg
  | true =>
    by_cases h2 : x2 = 0
    · subst h2
      rw [show P.walk s (x0, x1, 0) = (s, x1.data.toList, [], 0) by unfold Pg.walk; rw [if_neg (by simp [hg]), if_pos rfl]]
      exact walk_short P F s x0 x1 w h hg
    · obtain ⟨h3, h4, -⟩ := cellGood_long hg h2
      obtain ⟨n, rfl⟩ := Int.eq_ofNat_of_zero_le (show 0 ≤ x0 by omega)
      rw [show P.walk s ((n : Int), x1, x2) = P.follow (parts n) s x2 n [] [] by unfold Pg.walk; rw [if_neg (by simp [hg]), if_neg h2]; rfl]
      exact walk_chain P F s n x1 x2 w h hok hg h2 (by omega) (by omega)
set_option maxHeartbeats 1000000 in
set_option maxRecDepth 100000 in
theorem value_calls (P : Pg St) (F : Nat → Prop) (s : St) (x0 : Int) (x1 : ByteArray) (x2 : Int) (w : World) (h : P.At w F s) (hok : P.ok s) :
    Calls Tryz.prog 9 #[.iface P.T P.x, .agg #[.int .i64 x0, .string x1, .int .i64 x2]] w fun e w' => e = .returned (.tuple #[.string (bs (P.walk s (x0, x1, x2)).2.1), .int .i64 (P.walk s (x0, x1, x2)).2.2.2]) ∧ Goes (fun F' => P.At w' F' (P.walk s (x0, x1, x2)).1) F w w' := by
  have hu := Tryz.underlying24
  have hc := fun W hW => walk_calls P F s x0 x1 x2 W hW hok
  have H := Aside0.mk h
  obtain ⟨⟨s1, out, l, er⟩, hr⟩ : ∃ r, r = P.walk s (x0, x1, x2) := ⟨_, rfl⟩
  rw [← hr] at hc ⊢
  have HC := Aside0.mk hc
  clear h hok hc hr
  go_enter Tryz.func9, Tryz.ntmps9
  go_wp2_with fail
  refine (HC.out _ (Pg.below H.out (below_alloc (Below.refl _ _) _))).mono ?_
  rintro e w1 ⟨vl, rfl, F1, hA, hF, hR, hRow⟩
  have HA := Aside0.mk hA
  have HF := Aside0.mk hF
  have HR := Aside0.mk hR
  clear HC hA hF hR hRow
  go_wp2
  go_ret2
  exact ⟨rfl, F1, HA.out, fun k hk => (HF.out k hk).imp id (fun h => by simp at h; omega), (Fr.of_below (F := F) (below_alloc (Below.refl _ _) _)).trans HR.out (fun _ _ h => h)⟩
/-- What chain.List leaves. -/
def ListPost (P : Pg St) (F : Nat → Prop) (w : World) (s1 : St) (l : List Int) (er : Int) (e : Ending) (w' : World) : Prop :=
  ∃ vl, e = .returned (.tuple #[vl, .int .i64 er]) ∧ ∃ F' : Nat → Prop, Two (P.At · · s1) F F' w w' ∧ (Kd.int .i64).R 3 w' 0 (fun k => ¬ F' k ∧ w.heap.size ≤ k) vl l
set_option maxHeartbeats 1000000 in
set_option maxRecDepth 100000 in
theorem list_calls (P : Pg St) (F : Nat → Prop) (s : St) (x0 : Int) (x1 : ByteArray) (x2 : Int) (w : World) (h : P.At w F s) (hok : P.ok s) :
    Calls Tryz.prog 10 #[.iface P.T P.x, .agg #[.int .i64 x0, .string x1, .int .i64 x2]] w (ListPost P F w (P.walk s (x0, x1, x2)).1 (P.walk s (x0, x1, x2)).2.2.1 (P.walk s (x0, x1, x2)).2.2.2) := by
  have hu := Tryz.underlying24
  have hc := fun W hW => walk_calls P F s x0 x1 x2 W hW hok
  have H := Aside0.mk h
  obtain ⟨⟨s1, out, l, er⟩, hr⟩ : ∃ r, r = P.walk s (x0, x1, x2) := ⟨_, rfl⟩
  rw [← hr] at hc ⊢
  have HC := Aside0.mk hc
  clear h hok hc hr
  go_enter Tryz.func10, Tryz.ntmps10
  go_wp2_with fail
  refine (HC.out _ (Pg.below H.out (below_alloc (Below.refl _ _) _))).mono ?_
  rintro e w1 ⟨vl, rfl, F1, hA, hF, hR, hRow⟩
  have HA := Aside0.mk hA
  have HF := Aside0.mk hF
  have HR := Aside0.mk hR
  have HRow := Aside0.mk hRow
  clear HC hA hF hR hRow
  go_wp2
  go_ret2
  exact ⟨_, rfl, F1, ⟨HA.out, fun k hk => (HF.out k hk).imp id (fun h => by simp at h; omega), (Fr.of_below (F := F) (below_alloc (Below.refl _ _) _)).trans HR.out (fun _ _ h => h)⟩, Kd.R_mono HRow.out (fun k hk => ⟨hk.1, by have := hk.2; simp at this; omega⟩)⟩
def Pg.freeAll (P : Pg St) : List Int → St → St × Int
  | [], s => (s, 0)
  | n :: r, s => if (P.free s n).2 ≠ 0 then P.free s n else P.freeAll r (P.free s n).1
theorem freeAll_step {P : Pg St} {s s3 : St} {n e3 : Int} {r : List Int} (h : (s3, e3) = P.free s n) (he : e3 = 0) : P.freeAll (n :: r) s = P.freeAll r s3 := by
  conv => lhs; unfold Pg.freeAll
  rw [← h]; dsimp only; rw [if_neg (by simp [he])]
theorem freeAll_err {P : Pg St} {s s3 : St} {n e3 : Int} {r : List Int} (h : (s3, e3) = P.free s n) (he : e3 ≠ 0) : P.freeAll (n :: r) s = (s3, e3) := by
  unfold Pg.freeAll; rw [← h]; dsimp only; rw [if_pos he]
def Pg.freeChain (P : Pg St) (s : St) (c : Cel) : St × Int :=
  if (P.walk s c).2.2.2 ≠ 0 then ((P.walk s c).1, (P.walk s c).2.2.2) else P.freeAll (P.walk s c).2.2.1 (P.walk s c).1
theorem Pg.ok_follow (P : Pg St) : ∀ (k : Nat) {s : St} (a : Int) (left : Nat) (out : List UInt8) (l : List Int), P.ok s → P.ok (P.follow k s a left out l).1
  | 0, _, _, _, _, _, h => h
  | k + 1, s, a, left, out, l, h => by
    unfold Pg.follow
    split
    · exact P.ok_get a h
    · split
      · exact P.ok_get a h
      · exact P.ok_follow k _ _ _ _ (P.ok_get a h)
theorem Pg.ok_walk (P : Pg St) {s : St} (c : Cel) (h : P.ok s) : P.ok (P.walk s c).1 := by
  unfold Pg.walk
  split
  · exact h
  · split
    · exact h
    · exact P.ok_follow _ _ _ _ _ h
theorem Pg.ok_lay (P : Pg St) (v : List UInt8) : ∀ (k : Nat) {s : St} (n : Int), P.ok s → P.ok (P.lay v k s n).1
  | 0, _, _, h => h
  | k + 1, s, n, h => by
    unfold Pg.lay
    split
    · exact P.ok_new h
    · split
      · exact P.ok_put _ _ (P.ok_new h)
      · exact P.ok_lay v k _ (P.ok_put _ _ (P.ok_new h))
theorem Pg.ok_cell (P : Pg St) {s : St} (v : List UInt8) (h : P.ok s) : P.ok (P.cell s v).1 := by
  unfold Pg.cell
  split
  · exact h
  · split
    · exact h
    · split <;> exact P.ok_lay v _ _ h
theorem Pg.ok_freeAll (P : Pg St) : ∀ (l : List Int) {s : St}, P.ok s → P.ok (P.freeAll l s).1
  | [], _, h => h
  | n :: r, s, h => by
    unfold Pg.freeAll
    split
    · exact P.ok_free n h
    · exact P.ok_freeAll r (P.ok_free n h)
theorem Pg.ok_freeChain (P : Pg St) {s : St} (c : Cel) (h : P.ok s) : P.ok (P.freeChain s c).1 := by
  unfold Pg.freeChain
  split
  · exact P.ok_walk c h
  · exact P.ok_freeAll _ (P.ok_walk c h)
/-- What holds at the head of chain.Free's loop. -/
structure FrRel (P : Pg St) (F : Nat → Prop) (w wr : World) (s' : St) (F' : Nat → Prop) (vl : Value) (l : List Int) : Prop where
  two : Two (P.At · · s') F F' w wr
  ok : P.ok s'
  row : (Kd.int .i64).R 3 wr 0 (fun k => ¬ F' k ∧ w.heap.size ≤ k) vl l
theorem FrRel.call {P : Pg St} {F : Nat → Prop} {w wr w1 : World} {s' s1 : St} {F' F1 : Nat → Prop} {vl : Value} {l : List Int} (h : FrRel P F w wr s' F' vl l) (k : Two (P.At · · s1) F' F1 wr w1) (hok : P.ok s1) : FrRel P F w w1 s1 F1 vl l where
  two := h.two.trans k
  ok := hok
  row := by
    have h1 := Kd.R_step (Kd.R_bound h.row) (w1 := w1) (fun i ho hlt => k.2.2.block i hlt ho.1.1)
    exact Kd.R_mono h1 (fun i hi => ⟨fun hf => by rcases k.2.1 i hf with h1 | h1; exact hi.1.1 h1; have := hi.2.2.1; omega, hi.1.2⟩)
set_option maxHeartbeats 2000000 in
set_option maxRecDepth 100000 in
theorem free_calls (P : Pg St) (F : Nat → Prop) (s : St) (x0 : Int) (x1 : ByteArray) (x2 : Int) (w : World) (h : P.At w F s) (hok : P.ok s) :
    Calls Tryz.prog 16 #[.iface P.T P.x, .agg #[.int .i64 x0, .string x1, .int .i64 x2]] w fun e w' => e = .returned (.int .i64 (P.freeChain s (x0, x1, x2)).2) ∧ Goes (fun F' => P.At w' F' (P.freeChain s (x0, x1, x2)).1) F w w' := by
  have hu := Tryz.underlying24
  have hc := fun W hW => list_calls P F s x0 x1 x2 W hW hok
  have H := Aside0.mk h
  have hok1 := P.ok_walk (x0, x1, x2) hok
  have HFC : Aside0 (P.freeChain s (x0, x1, x2) = if (P.walk s (x0, x1, x2)).2.2.2 ≠ 0 then ((P.walk s (x0, x1, x2)).1, (P.walk s (x0, x1, x2)).2.2.2) else P.freeAll (P.walk s (x0, x1, x2)).2.2.1 (P.walk s (x0, x1, x2)).1) := ⟨rfl⟩
  obtain ⟨⟨s1, out, l, er⟩, hr⟩ : ∃ r, r = P.walk s (x0, x1, x2) := ⟨_, rfl⟩
  rw [← hr] at hc HFC hok1
  dsimp only at hc HFC hok1
  have HC := Aside0.mk hc
  have HOK1 := Aside0.mk hok1
  have hmf := P.mf
  have hef := P.ef
  clear h hok hc hr hok1
  go_enter Tryz.func16, Tryz.ntmps16
  go_wp2_with fail
  refine (HC.out _ (Pg.below H.out (below_alloc (Below.refl _ _) _))).mono ?_
  rintro e w1 ⟨vl, rfl, F1, hT, hRow⟩
  have HREL := Aside0.mk (show FrRel P F w w1 s1 F1 vl l from ⟨⟨hT.1, fun k hk => (hT.2.1 k hk).imp id (fun h => by simp at h; omega), (Fr.of_below (F := F) (below_alloc (Below.refl _ _) _)).trans hT.2.2 (fun _ _ h => h)⟩, HOK1.out, Kd.R_mono hRow (fun k hk => ⟨hk.1, by have := hk.2; simp at this; omega⟩)⟩)
  clear HC hT hRow HOK1
  by_cases he : er = 0
  · have te : (er != 0) = false := by simp [he]
    have HF2 := Aside0.mk (show P.freeChain s (x0, x1, x2) = P.freeAll l s1 by rw [HFC.out, if_neg (by simp [he])])
    clear HFC he
    obtain ⟨A, c, rfl⟩ := Kd.R_slice HREL.out.row
    have hlm := Kd.C_max (Kd.R_reads' HREL.out.row).2.2
    go_wp2
    go_loopw [21] (fun i wr => ∃ (k : Nat) (s' : St) (F' : Nat → Prop), k ≤ l.length ∧ i = .int .i64 k ∧ Aside0 (FrRel P F w wr s' F' (.slice A l.length c) l ∧ P.freeAll (l.drop k) s' = P.freeAll l s1)) (fun i _ => l.length - (intOf i).toNat)
    case atStart => exact ⟨0, s1, F1, Nat.zero_le _, rfl, ⟨HREL.out, rfl⟩⟩
    case round =>
      obtain ⟨k, s', F', hk, rfl, hA⟩ := hrel
      clear HREL
      have HR := Aside0.mk hA.out.1
      have HFA := Aside0.mk hA.out.2
      clear hA
      by_cases hlt : k < l.length
      · obtain ⟨ad, e1, hx⟩ := Kd.at_int (Kd.R_reads' HR.out.row).2.2 (k : Int) (by omega) (by omega)
        cases e1
        rw [show rd l (k : Int) = l.getD k 0 from rfl, Int.toNat_natCast] at hx
        obtain ⟨n, hn⟩ : ∃ n, n = l.getD k 0 := ⟨_, rfl⟩
        rw [← hn] at hx
        have HDR := Aside0.mk (show l.drop k = n :: l.drop (k + 1) by rw [List.drop_eq_getElem_cons hlt, hn]; simp [List.getD_eq_getElem?_getD, List.getElem?_eq_getElem hlt])
        clear hn
        have hcf := P.cf n HR.out.two.1 HR.out.ok
        have hok3 := P.ok_free n HR.out.ok
        obtain ⟨⟨s3, e3⟩, hr⟩ : ∃ r, r = P.free s' n := ⟨_, rfl⟩
        rw [← hr] at hcf hok3
        dsimp only at hcf hok3
        have HCF := Aside0.mk hcf
        have HOK3 := Aside0.mk hok3
        have HFR := Aside0.mk hr
        clear hcf hok3 hr
        go_wp2_with fail
        refine HCF.out.mono ?_
        rintro e w3 ⟨rfl, F3, hA3, hF3, hR3⟩
        replace HR := Aside0.mk (HR.out.call (Two.of hA3 hF3 hR3) HOK3.out)
        clear HCF hA3 hF3 hR3 HOK3 hx
        by_cases he3 : e3 = 0
        · have te3 : (e3 != 0) = false := by simp [he3]
          have HST := Aside0.mk (show P.freeAll (l.drop k) s' = P.freeAll (l.drop (k + 1)) s3 by rw [HDR.out]; exact freeAll_step HFR.out he3)
          clear he3
          go_wp2
          go_roundw
          case rel => exact ⟨k + 1, s3, F3, by omega, by go_num, ⟨HR.out, by rw [← HST.out]; exact HFA.out⟩⟩
          case measure => simp [intOf]; omega
        · have te3 : (e3 != 0) = true := by simp [he3]
          have HST := Aside0.mk (show P.freeAll (l.drop k) s' = (s3, e3) by rw [HDR.out]; exact freeAll_err HFR.out he3)
          clear he3
          go_wp2
          go_ret
          rw [HF2.out, ← HFA.out, HST.out]
          exact ⟨rfl, HR.out.two.goes⟩
      · have hke : k = l.length := by omega
        subst hke
        go_wp2
        go_ret
        rw [HF2.out, ← HFA.out, List.drop_length]
        exact ⟨rfl, HR.out.two.goes⟩
  · have te : (er != 0) = true := by simp [he]
    have HF2 := Aside0.mk (show P.freeChain s (x0, x1, x2) = (s1, er) by rw [HFC.out, if_pos he])
    clear HFC he
    go_wp2
    go_ret
    rw [HF2.out]
    exact ⟨rfl, HREL.out.two.goes⟩
end Go.Proofs.YtonbipaajhokfaaGreatDoor
end
section
set_option linter.unusedVariables false
set_option linter.unusedSimpArgs false
namespace Go.Proofs.YtonbipaajhokfaaGreatDoor
open Go.RowKit Go.Proofs.YtonbipaajhokfaaGreatDoorW.PrintWords Go.Proofs.YtonbipaajhokfaaGreatDoorW.PrintLast Go.Proofs.YtonbipaajhokfaaGreatDoorW.PrintMore
/-- All pages of a map are whole. -/
def FullM (f : Int → Option ByteArray) : Prop := ∀ n d, f n = some d → d.size = 232
theorem FullM.upd {f : Int → Option ByteArray} (h : FullM f) (n : Int) {d : ByteArray} (hd : d.size = 232) : FullM (upd f n d) := fun m e he => by
  unfold Go.Proofs.YtonbipaajhokfaaGreatDoor.upd at he
  split at he
  · cases he; exact hd
  · exact h m e he
theorem blankL_size : (bs blankL).size = 232 := by rw [bs_size]; exact List.length_replicate
theorem FullM.read {f : Int → Option ByteArray} (h : FullM f) (n : Int) : (readB f n).size = 232 := by
  unfold readB
  cases e : f n with
  | none => exact blankL_size
  | some d => exact h n d e
theorem lay_full (mb : Nat) {f : Int → Option ByteArray} (h : FullM f) (t next : Int) (l : List Int) : FullM ((mapShop mb).lay f t next l).1 := by
  unfold Shop.lay
  split
  · rename_i hok
    exact h.upd t (by rw [bs_size]; exact trunkPage_length _ _ (by unfold encOk at hok; simp at hok; omega))
  · exact h
theorem take_full (mb : Nat) {f : Int → Option ByteArray} (hf : FullM f) (h : Hd) : FullM ((mapShop mb).take f h).1 := by
  unfold Shop.take
  have e := trunk_keep mb f h.trunk
  repeat' split
  all_goals first
    | exact hf
    | (dsimp only; rw [e]; exact lay_full mb hf _ _ _)
    | (dsimp only; rw [e]; exact hf)
theorem give_full (mb : Nat) {f : Int → Option ByteArray} (hf : FullM f) (h : Hd) (n : Int) : FullM ((mapShop mb).give f h n).1 := by
  have e := trunk_keep mb f h.trunk
  have g : ∀ (r : (Int → Option ByteArray) × Int) (h : Hd), (gaveOf r h).1 = r.1 := fun r h => by unfold gaveOf; split <;> rfl
  unfold Shop.give
  split
  · exact hf
  · split
    · exact hf
    · split
      · rw [g]; exact lay_full mb hf _ _ _
      · split
        · dsimp only; rw [e]; exact hf
        · split
          · rw [g, e]; exact lay_full mb hf _ _ _
          · rw [g, e]; exact lay_full mb hf _ _ _
theorem take_hd (mb : Nat) (f : Int → Option ByteArray) (h : Hd) (he : ((mapShop mb).take f h).2.2.2 = 0) : ((mapShop mb).take f h).2.2.1.pages = (if h.spare = 0 then h.pages + 1 else h.pages) ∧ ((mapShop mb).take f h).2.2.1.spare = (if h.spare = 0 then h.spare else h.spare - 1) := by
  unfold Shop.take at he ⊢
  by_cases h0 : h.spare = 0
  · rw [if_pos h0] at he ⊢
    by_cases h1 : 4096 ≤ h.pages
    · rw [if_pos h1] at he; cases he
    · rw [if_neg h1, if_pos h0, if_pos h0]
      exact ⟨rfl, rfl⟩
  · rw [if_neg h0] at he ⊢
    rw [if_neg h0, if_neg h0]
    repeat' split at he
    all_goals first
      | (exact absurd he (by decide))
      | (exact absurd he (by assumption))
      | skip
    all_goals simp_all
    all_goals (repeat' split)
    all_goals first
      | exact ⟨rfl, rfl⟩
      | omega
theorem give_hd (mb : Nat) (f : Int → Option ByteArray) (h : Hd) (n : Int) (he : ((mapShop mb).give f h n).2.2 = 0) : ((mapShop mb).give f h n).2.1.pages = h.pages ∧ ((mapShop mb).give f h n).2.1.spare = h.spare + 1 ∧ h.spare < h.pages - 1 := by
  unfold Shop.give at he ⊢
  by_cases h1 : n < 1 ∨ h.pages ≤ n
  · rw [if_pos h1] at he; cases he
  · rw [if_neg h1] at he ⊢
    by_cases h2 : h.pages - 1 ≤ h.spare
    · rw [if_pos h2] at he; cases he
    · rw [if_neg h2] at he ⊢
      have h3 : h.spare < h.pages - 1 := by omega
      have gv : ∀ (r : (Int → Option ByteArray) × Int) (x : Hd), (gaveOf r x).2.2 = 0 → (gaveOf r x).2.1 = x := fun r x hh => by
        unfold gaveOf at hh ⊢
        split
        · rename_i h4; rw [if_pos h4] at hh; exact absurd hh h4
        · rfl
      by_cases h4 : h.trunk = 0
      · rw [if_pos h4] at he ⊢
        rw [gv _ _ he]; exact ⟨rfl, rfl, h3⟩
      · rw [if_neg h4] at he ⊢
        by_cases h5 : ((mapShop mb).trunk f h.trunk).2.2.2 ≠ 0
        · rw [if_pos h5] at he; exact absurd he h5
        · rw [if_neg h5] at he ⊢
          by_cases h6 : ((mapShop mb).trunk f h.trunk).2.2.1.length < 50
          · rw [if_pos h6] at he ⊢
            rw [gv _ _ he]; exact ⟨rfl, rfl, h3⟩
          · rw [if_neg h6] at he ⊢
            rw [gv _ _ he]; exact ⟨rfl, rfl, h3⟩
/-- A shelf within its bounds. -/
structure ShOk (s : Sh) : Prop where
  lim : s.limit ≤ 4096
  left : s.left ≤ 4096
  p1 : 1 ≤ s.hd.pages
  p2 : s.hd.pages ≤ 4096
  s0 : 0 ≤ s.hd.spare
  s1 : s.hd.spare < s.hd.pages
  full : FullM s.f
theorem ShOk.bd {s : Sh} (h : ShOk s) : s.bd := ⟨by have := h.p1; omega, h.p2, h.s0, by have := h.s1; have := h.p2; omega⟩
theorem nl_le {l : Int} (h : l ≤ 4096) : nl l ≤ 4096 := by unfold nl; split <;> omega
theorem ShOk.dec {s : Sh} (h : ShOk s) : ShOk s.dec := ⟨h.lim, nl_le h.left, h.p1, h.p2, h.s0, h.s1, h.full⟩
theorem ShOk.put {s : Sh} (h : ShOk s) (n : Int) (d : ByteArray) : ShOk (s.put n d).1 := by
  unfold Sh.put
  split
  · exact h.dec
  · split
    · exact h.dec
    · rename_i h2
      exact ⟨h.lim, nl_le h.left, h.p1, h.p2, h.s0, h.s1, h.full.upd n (by simpa using h2)⟩
theorem ShOk.new {s : Sh} (h : ShOk s) (mb : Nat) : ShOk (s.new mb).1 := by
  unfold Sh.new
  by_cases c0 : s.left = 0
  · rw [if_pos c0]; exact h.dec
  · rw [if_neg c0]
    by_cases c1 : s.hd.spare = 0 ∧ s.limit ≤ s.hd.pages
    · rw [if_pos c1]; exact h.dec
    · rw [if_neg c1]
      by_cases c2 : ((mapShop mb).take s.f s.hd).2.2.2 ≠ 0
      · rw [if_pos c2]; exact ⟨h.lim, nl_le h.left, h.p1, h.p2, h.s0, h.s1, take_full mb h.full _⟩
      · rw [if_neg c2]
        obtain ⟨g1, g2⟩ := take_hd mb s.f s.hd (by omega)
        have l1 := h.lim
        have q1 := h.p1
        have q2 := h.p2
        have q3 := h.s0
        have q4 := h.s1
        refine ⟨l1, nl_le h.left, ?_, ?_, ?_, ?_, (take_full mb h.full _).upd _ blankL_size⟩ <;> dsimp only <;> (try rw [g1]) <;> (try rw [g2]) <;> split <;> omega
theorem ShOk.free {s : Sh} (h : ShOk s) (mb : Nat) (n : Int) : ShOk (s.free mb n).1 := by
  unfold Sh.free
  by_cases c0 : s.beg n ≠ 0
  · rw [if_pos c0]; exact h.dec
  · rw [if_neg c0]
    by_cases c1 : ((mapShop mb).give s.f s.hd n).2.2 = 0
    · rw [if_pos c1]
      obtain ⟨g1, g2, g3⟩ := give_hd mb s.f s.hd n c1
      have q1 := h.p1
      have q2 := h.p2
      have q3 := h.s0
      refine ⟨h.lim, nl_le h.left, ?_, ?_, ?_, ?_, give_full mb h.full _ _⟩ <;> dsimp only <;> (try rw [g1]) <;> (try rw [g2]) <;> omega
    · rw [if_neg c1]; exact ⟨h.lim, nl_le h.left, h.p1, h.p2, h.s0, h.s1, give_full mb h.full _ _⟩
theorem ShOk.start {lim : Int} (h1 : 1 ≤ lim) (h2 : lim ≤ 4096) : ShOk (Sh.start lim) :=
  ⟨h2, show (-1 : Int) ≤ 4096 by decide, show (1 : Int) ≤ 1 by decide, show (1 : Int) ≤ 4096 by decide, show (0 : Int) ≤ 0 by decide, show (0 : Int) < 1 by decide, fun n d h => by cases h⟩
/-- A shelf stands at ks, its map at mb; its blocks are F's. -/
def ShIn (ks mb : Nat) (w : World) (F : Nat → Prop) (s : Sh) : Prop := F ks ∧ F mb ∧ (∀ k, F k → k < w.heap.size) ∧ ShAt ks mb w s
theorem ShIn.goes {ks mb : Nat} {w w' : World} {F : Nat → Prop} {s s' : Sh} (h : ShIn ks mb w F s) (hs : ShAt ks mb w' s') (hf : Fr (ShF ks mb) w w') : Goes (fun F' => ShIn ks mb w' F' s') F w w' :=
  ⟨F, ⟨h.1, h.2.1, fun k hk => Nat.lt_of_lt_of_le (h.2.2.1 k hk) hf.size, hs⟩, fun k hk => Or.inl hk, hf.mono (fun k _ hk => by rcases hk with e | e; rw [e]; exact h.1; rw [e]; exact h.2.1)⟩
def shPg (ks mb : Nat) : Pg Sh where
  T := 26
  x := .pointer (some ⟨ks, 0, none⟩)
  fg := 20
  fp := 26
  fn := 25
  ff := 145
  mg := fun w => by kernel_rfl
  mp := fun w => by kernel_rfl
  mn := fun w => by kernel_rfl
  mf := fun w => by kernel_rfl
  na := fun w => by kernel_rfl
  eg := fun args w => by kernel_rfl
  ep := fun args w => by kernel_rfl
  en := fun args w => by kernel_rfl
  ef := fun args w => by kernel_rfl
  At := ShIn ks mb
  keep := fun h hk hs => ⟨h.1, h.2.1, fun k hf => Nat.lt_of_lt_of_le (h.2.2.1 k hf) hs, (hk _ h.1).trans h.2.2.2.1, h.2.2.2.2.keep (hk _ h.2.1)⟩
  bound := fun h => h.2.2.1
  ok := ShOk
  get := fun s n => (s.dec, (s.get n).1, (s.get n).2)
  put := fun s n d => s.put n d
  new := fun s => s.new mb
  free := fun s n => s.free mb n
  ok_get := fun n h => h.dec
  ok_put := fun n d h => h.put n d
  ok_new := fun h => h.new mb
  ok_free := fun n h => h.free mb n
  full := fun {s} n h he => by
    dsimp only at he ⊢
    unfold Sh.get at he ⊢
    split at he
    · rename_i h1; exact absurd he h1
    · rename_i h1; rw [if_neg h1]; exact h.full.read n
  cg := fun {w F s} n h hok => (shGet_calls ks mb s n w h.2.2.2 hok.left).mono fun e w' hh => ⟨hh.1, h.goes hh.2.1 hh.2.2⟩
  cp := fun {w F s} n d h hok => (shPut_calls ks mb s n d w h.2.2.2 hok.left).mono fun e w' hh => ⟨hh.1, h.goes hh.2.1 hh.2.2⟩
  cn := fun {w F s} h hok => (shNew_calls ks mb s w h.2.2.2 hok.left hok.bd).mono fun e w' hh => ⟨hh.1, h.goes hh.2.1 hh.2.2⟩
  cf := fun {w F s} n h hok => (shFree_calls ks mb s n w h.2.2.2 hok.left hok.bd).mono fun e w' hh => ⟨hh.1, h.goes hh.2.1 hh.2.2⟩
end Go.Proofs.YtonbipaajhokfaaGreatDoor
end
section
set_option linter.unusedVariables false
set_option linter.unusedSimpArgs false
namespace Go.Proofs.YtonbipaajhokfaaGreatDoor
open Go.RowKit Go.Proofs.YtonbipaajhokfaaGreatDoorW.PrintWords
section
variable {lim p : Int} {s : Sh} {u : List Int} {L : Nat}
theorem Good.newk (h : Good lim s u p L) (mb : Nat) (hu : (u.length : Int) + 1 < lim) :
    ∃ s' n p' L', s.new mb = (s', n, 0) ∧ Good lim s' (u ++ [n]) p' L' ∧ n ∉ u ∧ 1 ≤ n ∧ n < 4096 ∧ L' ≤ L ∧ ∀ y ∈ u, readB s'.f y = readB s.f y := by
  obtain ⟨s', nn, p', L', h1, h2, h3, h4, h5, h6, h7, h8⟩ := h.new2 mb hu
  have hk := fun y => new_keep mb s y
  rw [h1] at hk
  have hs := h.sum
  exact ⟨s', nn, p', L', h1, h2, h6, h3, by omega, h8, fun y hy => hk y (h.trunk hy) (fun e => h6 (by have e' : y = nn := e; rw [← e']; exact hy))⟩
theorem Good.putk (h : Good lim s u p L) (mb : Nat) {n : Int} {d : ByteArray} (hn : n ∈ u) (hd : d.size = 232) :
    ∃ s', s.put n d = (s', 0) ∧ Good lim s' u p L ∧ readB s'.f n = d ∧ ∀ y, y ≠ n → readB s'.f y = readB s.f y := by
  obtain ⟨h1, h2⟩ := h.put mb hn hd
  exact ⟨_, h1, h2, by dsimp only; rw [upd_look, if_pos rfl], fun y hy => by dsimp only; rw [upd_look, if_neg hy]⟩
theorem Good.freek {a b : List Int} {n : Int} (h : Good lim s (a ++ n :: b) p L) (mb : Nat) :
    ∃ s', s.free mb n = (s', 0) ∧ Good lim s' (a ++ b) p (L + 1) ∧ ∀ y ∈ a ++ b, readB s'.f y = readB s.f y := by
  have hk : a.length < (a ++ n :: b).length := by simp
  obtain ⟨s', h1, h2⟩ := h.free mb hk
  have e1 : (a ++ n :: b).getD a.length 0 = n := by simp
  have e2 : (a ++ n :: b).take a.length ++ (a ++ n :: b).drop (a.length + 1) = a ++ b := by simp
  rw [e1] at h1
  rw [e2] at h2
  refine ⟨s', h1, h2, fun y hy => ?_⟩
  have hf := free_keep mb s n y
  rw [h1] at hf
  have hnd := h.nodup.1
  have hp : (a ++ n :: b).Perm (n :: (a ++ b)) := List.perm_middle
  have hnd2 := (hp.nodup_iff).1 hnd
  exact hf (h.trunk (hp.mem_iff.2 (List.mem_cons_of_mem _ hy))) (fun e => (List.nodup_cons.1 hnd2).1 (e ▸ hy))
theorem Good.getk (h : Good lim s u p L) {n : Int} (hn : n ∈ u) : (s.dec, (s.get n).1, (s.get n).2) = (s, readB s.f n, 0) := by
  have hb := h.nodup.2 n hn
  have hd := Sh.dec_le (s := s) (by rw [h.left]; decide)
  unfold Sh.get
  rw [h.beg hb.1 hb.2, if_neg (by decide), hd]
end
/-- The pages ns hold v's parts from part j on. -/
def Laid (look : Int → ByteArray) (v : List UInt8) : Nat → List Int → Prop
  | _, [] => True
  | j, n :: r => look n = bs (partL ((v.drop (j * 227)).take 227) (r.headD 0)) ∧ Laid look v (j + 1) r
theorem Laid.keep {look look' : Int → ByteArray} {v : List UInt8} : ∀ {j : Nat} {ns : List Int}, Laid look v j ns → (∀ y ∈ ns, look' y = look y) → Laid look' v j ns
  | _, [], _, _ => trivial
  | j, n :: r, h, hk => ⟨(hk n (by simp)).trans h.1, Laid.keep h.2 (fun y hy => hk y (by simp [hy]))⟩
theorem wrap_u64_small {n : Int} (h0 : 0 ≤ n) (h1 : n < 4294967296) : IntKind.u64.wrap n = n := by rw [IntKind.wrap_u64]; omega
theorem nextOf_partL {part : List UInt8} {next : Int} (h0 : 0 ≤ next) (h1 : next < 4294967296) : nextOf (partL part next) = next := by
  unfold nextOf partL
  rw [wrap_u64_small h0 h1]
  have : ((3 :: be4 next ++ part ++ List.replicate (227 - part.length) 0).drop 1).take 4 = be4 next := by
    simp only [List.cons_append, List.drop_succ_cons, List.drop_zero, List.append_assoc]
    rw [List.take_append_of_le_length (by rw [be4_length]; exact Nat.le_refl _), List.take_of_length_le (by rw [be4_length]; exact Nat.le_refl _)]
  rw [this, beV_be4 next h0 h1]
theorem drop5_partL (part : List UInt8) (next : Int) : (partL part next).drop 5 = part ++ List.replicate (227 - part.length) 0 := by
  unfold partL
  rw [List.append_assoc]
  exact List.drop_left' (by simp [be4_length])
theorem isKind_partL (part : List UInt8) (next : Int) : isKind (partL part next) = true := by
  unfold isKind Lib.hasPrefix partL
  simp
theorem pageOk_partL {v : List UInt8} {j : Nat} {next : Int} (h0 : 0 ≤ next) (h1 : next < 4294967296) (hn : next = 0 ↔ v.length - j * 227 ≤ 227) (hj : j * 227 < v.length) :
    pageOk (partL ((v.drop (j * 227)).take 227) next) (v.length - j * 227) = true := by
  have hl : ((v.drop (j * 227)).take 227).length = min 227 (v.length - j * 227) := by rw [List.length_take, List.length_drop]
  unfold pageOk
  rw [isKind_partL, nextOf_partL h0 h1]
  have e1 : (next == 0) = decide (v.length - j * 227 ≤ 227) := by
    by_cases h : next = 0
    · rw [decide_eq_true (hn.1 h)]; simp [h]
    · rw [decide_eq_false (fun hh => h (hn.2 hh))]; simp [h]
  rw [e1]
  unfold restOk
  rw [drop5_partL]
  have e2 : (((v.drop (j * 227)).take 227 ++ List.replicate (227 - ((v.drop (j * 227)).take 227).length) 0).drop (v.length - j * 227)).all (· == 0) = true := by
    rw [List.drop_append, List.drop_of_length_le (by omega), List.nil_append, List.all_eq_true]
    intro x hx
    have := List.mem_of_mem_drop hx
    simp [List.mem_replicate] at this
    simp [this.2]
  rw [e2]
  simp
theorem take_partL {v : List UInt8} {j : Nat} {next : Int} (hj : j * 227 < v.length) : ((partL ((v.drop (j * 227)).take 227) next).drop 5).take (v.length - j * 227) = (v.drop (j * 227)).take 227 := by
  have hl : ((v.drop (j * 227)).take 227).length = min 227 (v.length - j * 227) := by rw [List.length_take, List.length_drop]
  rw [drop5_partL, List.take_append]
  have e2 : (List.replicate (227 - ((v.drop (j * 227)).take 227).length) (0 : UInt8)).take (v.length - j * 227 - ((v.drop (j * 227)).take 227).length) = [] := by
    rw [List.take_replicate, hl]
    rw [show min (v.length - j * 227 - min 227 (v.length - j * 227)) (227 - min 227 (v.length - j * 227)) = 0 by omega]
    rfl
  rw [e2, List.append_nil, List.take_of_length_le (by omega)]
/-- Following a chain that is laid. -/
theorem follow_laid (ks mb : Nat) {lim p : Int} {s : Sh} {u : List Int} {L : Nat} (h : Good lim s u p L) {v : List UInt8} :
    ∀ (ns : List Int) (j : Nat) (out : List UInt8) (l : List Int) (n : Int), Laid (readB s.f) v j ns → (∀ y ∈ ns, y ∈ u) → ns.headD 0 = n → (ns.length = 0 ∧ v.length ≤ j * 227 ∨ j * 227 < v.length ∧ ns.length = parts (v.length - j * 227)) →
      (shPg ks mb).follow ns.length s n (v.length - j * 227) out l = (s, out ++ v.drop (j * 227), l ++ ns, 0) := by
  intro ns
  induction ns with
  | nil =>
    intro j out l n hl hu hn hc
    have hle : v.length ≤ j * 227 := by
      rcases hc with h | h
      · exact h.2
      · have := h.2; unfold parts at this; simp at this
    show (s, out, l, (0 : Int)) = _
    rw [List.drop_of_length_le hle, List.append_nil, List.append_nil]
  | cons m r ih =>
    intro j out l n hl hu hn hc
    obtain ⟨hlook, hrest⟩ := hl
    simp at hn
    subst hn
    rcases hc with h0 | ⟨hj, hlen⟩
    · simp at h0
    · have hm := hu m (by simp)
      have hg := h.getk hm
      rw [hlook] at hg
      have hnext : 0 ≤ r.headD 0 ∧ r.headD 0 < 4096 ∧ (r ≠ [] → 1 ≤ r.headD 0) := by
        cases r with
        | nil => simp
        | cons x q =>
          have h2 := h.nodup.2 x (hu x (by simp))
          have h3 := h.sum
          simp only [List.headD_cons]
          exact ⟨by omega, by omega, fun _ => h2.1⟩
      have hlr : r.length + 1 = parts (v.length - j * 227) := by simpa using hlen
      have hiff : r.headD 0 = 0 ↔ v.length - j * 227 ≤ 227 := by
        cases r with
        | nil => simp; unfold parts at hlr; simp at hlr; omega
        | cons x q =>
          have h1 := hnext.2.2 (by simp)
          simp only [List.headD_cons] at h1 ⊢
          simp at hlr
          unfold parts at hlr
          constructor <;> intro hh <;> omega
      have hok := pageOk_partL (v := v) (j := j) hnext.1 (by omega) hiff hj
      rw [List.length_cons, follow_step (P := shPg ks mb) (s := s) (s1 := s) (e1 := 0) (pg := partL ((v.drop (j * 227)).take 227) (r.headD 0)) hg.symm rfl hok, nextOf_partL hnext.1 (by omega), take_partL hj]
      rw [show v.length - j * 227 - 227 = v.length - (j + 1) * 227 by omega]
      rw [ih (j + 1) _ _ _ hrest (fun y hy => hu y (by simp [hy])) rfl (by
        by_cases hr : r = []
        · subst hr; left; simp at hlr; unfold parts at hlr; exact ⟨rfl, by omega⟩
        · right
          have : 0 < r.length := List.length_pos_iff.2 hr
          unfold parts at hlr ⊢
          constructor <;> omega)]
      rw [List.append_assoc, List.append_assoc, show (j + 1) * 227 = j * 227 + 227 by omega, ← List.drop_drop, List.take_append_drop]
      rfl
/-- Laying: k parts, behind those that are laid. -/
theorem lay_good (ks mb : Nat) {lim : Int} {v : List UInt8} (hv : v.length ≤ 5000) :
    ∀ (k : Nat) {p : Int} {s : Sh} {u ns : List Int} {L : Nat}, Good lim s (u ++ ns) p L → Laid (readB s.f) v k ns → (∀ y ∈ ns, y ∉ u) → ((u ++ ns).length : Int) + k < lim →
      ∃ s' ms p' L', (shPg ks mb).lay v k s (ns.headD 0) = (s', ms.headD 0, 0) ∧ Good lim s' (u ++ ms) p' L' ∧ Laid (readB s'.f) v 0 ms ∧ ms.length = k + ns.length ∧ (∀ y ∈ ms, y ∉ u) ∧ (∀ y ∈ u, readB s'.f y = readB s.f y) ∧ L' ≤ L := by
  intro k
  induction k with
  | zero => intro p s u ns L h hl hd hr; exact ⟨s, ns, p, L, rfl, h, hl, by simp, hd, fun _ _ => rfl, Nat.le_refl _⟩
  | succ k ih =>
    intro p s u ns L h hl hd hr
    obtain ⟨s1, n, p1, L1, a1, a2, a3, a4, a5, a6, a7⟩ := h.newk mb (by omega)
    have hnm : n ∈ u ++ ns ++ [n] := by simp
    obtain ⟨s2, b1, b2, b3, b4⟩ := a2.putk mb hnm (d := bs (partL ((v.drop (k * 227)).take 227) (ns.headD 0))) (by rw [bs_size]; exact partL_length (by rw [List.length_take]; omega) _)
    have hg : Good lim s2 (u ++ (n :: ns)) p1 L1 := by
      obtain ⟨t, c, h1, h2, h3, h4, h5, h6, h7, h8⟩ := b2
      refine ⟨t, c, h1, h2, h3, h4, h5, ?_, h7, h8⟩
      obtain ⟨i1, i2, i3⟩ := h6
      have hp : (u ++ ns ++ [n]).Perm (u ++ n :: ns) := by
        have e1 : (u ++ ns ++ [n]).Perm (n :: (u ++ ns)) := List.perm_append_singleton n (u ++ ns)
        exact e1.trans List.perm_middle.symm
      have hp2 := hp.append_right (flat c)
      exact ⟨by rw [i1, hp.length_eq], (hp2.nodup_iff).1 i2, fun y hy => i3 y (hp2.mem_iff.2 hy)⟩
    have hne : ∀ y ∈ u ++ ns, y ≠ n := fun y hy e => a3 (e ▸ hy)
    have hlook : ∀ y ∈ u ++ ns, readB s2.f y = readB s.f y := fun y hy => (b4 y (hne y hy)).trans (a7 y hy)
    obtain ⟨s', ms, p', L', c1, c2, c3, c4, c5, c6, c7⟩ := ih hg ⟨b3, hl.keep (fun y hy => hlook y (List.mem_append_right _ hy))⟩ (fun y hy => by
      rcases List.mem_cons.1 hy with e | e
      · rw [e]; exact fun hm => a3 (List.mem_append_left _ hm)
      · exact hd y e) (by simp at hr ⊢; omega)
    refine ⟨s', ms, p', L', ?_, c2, c3, by rw [c4, List.length_cons]; omega, c5, fun y hy => (c6 y hy).trans (hlook y (List.mem_append_left _ hy)), by omega⟩
    rw [lay_step (P := shPg ks mb) (s := s) (s1 := s1) (n1 := n) (e1 := 0) (s3 := s2) (e3 := 0) a1.symm rfl rfl b1.symm rfl]
    exact c1
def partsOf (n : Nat) : Nat := if n ≤ 40 then 0 else parts n
/-- What a cell and its pages are: the value v. -/
def Means (look : Int → ByteArray) (c : Cel) (v : List UInt8) (ns : List Int) : Prop :=
  if v.length ≤ 40 then c = ((v.length : Int), bs v, 0) ∧ ns = [] else c = ((v.length : Int), ⟨#[]⟩, ns.headD 0) ∧ ns.length = parts v.length ∧ Laid look v 0 ns
theorem Means.keep {look look' : Int → ByteArray} {c : Cel} {v : List UInt8} {ns : List Int} (h : Means look c v ns) (hk : ∀ y ∈ ns, look' y = look y) : Means look' c v ns := by
  unfold Means at h ⊢
  split
  · rename_i h1; rw [if_pos h1] at h; exact h
  · rename_i h1; rw [if_neg h1] at h; exact ⟨h.1, h.2.1, h.2.2.keep hk⟩
theorem Means.len {look : Int → ByteArray} {c : Cel} {v : List UInt8} {ns : List Int} (h : Means look c v ns) : ns.length = partsOf v.length := by
  unfold Means at h
  unfold partsOf
  split at h
  · rename_i h1; rw [if_pos h1, h.2]; rfl
  · rename_i h1; rw [if_neg h1, h.2.1]
theorem cell_good (ks mb : Nat) {lim p : Int} {s : Sh} {u : List Int} {L : Nat} (h : Good lim s u p L) {v : List UInt8} (hv : v.length ≤ 5000) (hr : (u.length : Int) + partsOf v.length < lim) :
    ∃ s' c ns p' L', (shPg ks mb).cell s v = (s', c, 0) ∧ Good lim s' (u ++ ns) p' L' ∧ Means (readB s'.f) c v ns ∧ (∀ y ∈ ns, y ∉ u) ∧ (∀ y ∈ u, readB s'.f y = readB s.f y) ∧ L' ≤ L := by
  unfold partsOf at hr
  by_cases h40 : v.length ≤ 40
  · refine ⟨s, ((v.length : Int), bs v, 0), [], p, L, ?_, by rw [List.append_nil]; exact h, ?_, fun y hy => by simp at hy, fun _ _ => rfl, Nat.le_refl _⟩
    · unfold Pg.cell; rw [if_neg (by omega), if_pos h40]
    · unfold Means; rw [if_pos h40]; exact ⟨rfl, rfl⟩
  · rw [if_neg h40] at hr
    obtain ⟨s', ms, p', L', c1, c2, c3, c4, c5, c6, c7⟩ := lay_good ks mb hv (parts v.length) (u := u) (ns := []) (by rw [List.append_nil]; exact h) trivial (fun y hy => by simp at hy) (by simpa using hr)
    refine ⟨s', ((v.length : Int), ⟨#[]⟩, ms.headD 0), ms, p', L', cell_ok (by omega) hv c1, c2, ?_, c5, c6, c7⟩
    unfold Means; rw [if_neg h40]
    exact ⟨rfl, by simpa using c4, c3⟩
theorem walk_means (ks mb : Nat) {lim p : Int} {s : Sh} {u : List Int} {L : Nat} (h : Good lim s u p L) {c : Cel} {v : List UInt8} {ns : List Int} (hv : v.length ≤ 5000) (hm : Means (readB s.f) c v ns) (hu : ∀ y ∈ ns, y ∈ u) :
    cellGood c.1 c.2.1 c.2.2 = true ∧ (shPg ks mb).walk s c = (s, v, ns, 0) := by
  unfold Means at hm
  split at hm
  · rename_i h40
    obtain ⟨rfl, rfl⟩ := hm
    have hg : cellGood (v.length : Int) (bs v) 0 = true := by unfold cellGood; rw [if_neg (by omega), if_pos (by omega)]; simp [bs_size]
    refine ⟨hg, ?_⟩
    unfold Pg.walk
    dsimp only
    rw [if_neg (by simp [hg]), if_pos rfl, bs_list]
  · rename_i h40
    obtain ⟨rfl, h2, h3⟩ := hm
    have h1 : 1 ≤ ns.headD 0 ∧ ns.headD 0 < 4096 := by
      cases ns with
      | nil => unfold parts at h2; simp at h2
      | cons x q =>
        have h4 := h.nodup.2 x (hu x (by simp))
        have h5 := h.sum
        exact ⟨h4.1, by simp only [List.headD_cons]; omega⟩
    have hg : cellGood (v.length : Int) (⟨#[]⟩ : ByteArray) (ns.headD 0) = true := by
      unfold cellGood; rw [if_neg (by omega), if_neg (by omega)]
      simp only [Bool.and_eq_true, decide_eq_true_eq]
      exact ⟨rfl, (pageB_iff _).2 h1⟩
    refine ⟨hg, ?_⟩
    unfold Pg.walk
    dsimp only
    rw [if_neg (by rw [hg]; decide), if_neg (by omega), Int.toNat_natCast, ← h2]
    have := follow_laid ks mb h ns 0 [] [] (ns.headD 0) h3 hu rfl (Or.inr ⟨by omega, by rw [h2, Nat.zero_mul, Nat.sub_zero]⟩)
    rw [Nat.zero_mul, Nat.sub_zero] at this
    rw [this]
    simp
theorem freeAll_good (ks mb : Nat) {lim : Int} : ∀ (ns : List Int) {p : Int} {s : Sh} {a b : List Int} {L : Nat}, Good lim s (a ++ ns ++ b) p L →
    ∃ s', (shPg ks mb).freeAll ns s = (s', 0) ∧ Good lim s' (a ++ b) p (L + ns.length) ∧ ∀ y ∈ a ++ b, readB s'.f y = readB s.f y := by
  intro ns
  induction ns with
  | nil => intro p s a b L h; exact ⟨s, rfl, by simpa using h, fun _ _ => rfl⟩
  | cons n r ih =>
    intro p s a b L h
    obtain ⟨s1, h1, h2, h3⟩ := Good.freek (a := a) (n := n) (b := r ++ b) (by simpa using h) mb
    obtain ⟨s2, g1, g2, g3⟩ := ih (a := a) (b := b) (by simpa using h2)
    refine ⟨s2, ?_, ?_, fun y hy => (g3 y hy).trans (h3 y ?_)⟩
    · rw [freeAll_step (P := shPg ks mb) (s3 := s1) (e3 := 0) h1.symm rfl]; exact g1
    · rw [List.length_cons, show L + (r.length + 1) = L + 1 + r.length by omega]; exact g2
    · rcases List.mem_append.1 hy with e | e
      · exact List.mem_append_left _ e
      · exact List.mem_append_right _ (List.mem_append_right _ e)
theorem freeChain_good (ks mb : Nat) {lim p : Int} {s : Sh} {a b : List Int} {L : Nat} {c : Cel} {v : List UInt8} {ns : List Int} (h : Good lim s (a ++ ns ++ b) p L) (hv : v.length ≤ 5000) (hm : Means (readB s.f) c v ns) :
    ∃ s', (shPg ks mb).freeChain s c = (s', 0) ∧ Good lim s' (a ++ b) p (L + ns.length) ∧ ∀ y ∈ a ++ b, readB s'.f y = readB s.f y := by
  obtain ⟨s', h1, h2, h3⟩ := freeAll_good ks mb ns h
  refine ⟨s', ?_, h2, h3⟩
  unfold Pg.freeChain
  rw [(walk_means ks mb h hv hm (fun y hy => by simp [hy])).2]
  dsimp only
  rw [if_neg (by decide)]
  exact h1
end Go.Proofs.YtonbipaajhokfaaGreatDoor
end
section
set_option linter.unusedVariables false
set_option linter.unusedSimpArgs false
namespace Go.Proofs.YtonbipaajhokfaaGreatDoor
open Go.RowKit Go.Proofs.YtonbipaajhokfaaGreatDoorW.PrintWords Go.Proofs.YtonbipaajhokfaaGreatDoorW.PrintLast Go.Proofs.YtonbipaajhokfaaGreatDoorW.PrintMore
theorem ShAt.in_ {ks mb : Nat} {w : World} {s : Sh} (h : ShAt ks mb w s) : ShIn ks mb w (ShF ks mb) s :=
  ⟨Or.inl rfl, Or.inr rfl, fun k hk => by rcases hk with e | e; rw [e]; exact h.lt; rw [e]; exact h.2.lt, h⟩
theorem shCell_calls (ks mb : Nat) (s : Sh) (v : List UInt8) (w : World) (h : ShAt ks mb w s) (hok : ShOk s) (hm : v.length ≤ 9223372036854775807) :
    Calls Tryz.prog 13 #[.iface 26 (.pointer (some ⟨ks, 0, none⟩)), .string (bs v)] w fun e w' => e = .returned (.tuple #[.agg #[.int .i64 ((shPg ks mb).cell s v).2.1.1, .string ((shPg ks mb).cell s v).2.1.2.1, .int .i64 ((shPg ks mb).cell s v).2.1.2.2], .int .i64 ((shPg ks mb).cell s v).2.2]) ∧
      ShAt ks mb w' ((shPg ks mb).cell s v).1 ∧ Fr (ShF ks mb) w w' :=
  (cell_calls (shPg ks mb) (ShF ks mb) s v w h.in_ hok hm).mono fun e w' hh => ⟨hh.1, by obtain ⟨F', h1, h2, h3⟩ := hh.2; exact ⟨h1.2.2.2, h3⟩⟩
theorem shValue_calls (ks mb : Nat) (s : Sh) (x0 : Int) (x1 : ByteArray) (x2 : Int) (w : World) (h : ShAt ks mb w s) (hok : ShOk s) :
    Calls Tryz.prog 9 #[.iface 26 (.pointer (some ⟨ks, 0, none⟩)), .agg #[.int .i64 x0, .string x1, .int .i64 x2]] w fun e w' => e = .returned (.tuple #[.string (bs ((shPg ks mb).walk s (x0, x1, x2)).2.1), .int .i64 ((shPg ks mb).walk s (x0, x1, x2)).2.2.2]) ∧
      ShAt ks mb w' ((shPg ks mb).walk s (x0, x1, x2)).1 ∧ Fr (ShF ks mb) w w' :=
  (value_calls (shPg ks mb) (ShF ks mb) s x0 x1 x2 w h.in_ hok).mono fun e w' hh => ⟨hh.1, by obtain ⟨F', h1, h2, h3⟩ := hh.2; exact ⟨h1.2.2.2, h3⟩⟩
/-- A row of ints that is none of a shelf's blocks. -/
def RowAt (ks mb B : Nat) (w : World) (v : Value) (l : List Int) : Prop := (Kd.int .i64).R 3 w 0 (fun k => k ≠ ks ∧ k ≠ mb ∧ B ≤ k) v l
theorem RowAt.fr {ks mb B : Nat} {w w' : World} {v : Value} {l : List Int} (h : RowAt ks mb B w v l) (hf : Fr (ShF ks mb) w w') : RowAt ks mb B w' v l :=
  Kd.R_step h (fun k ho hlt => hf.block k hlt (fun hh => by rcases hh with e | e; exact ho.1 e; exact ho.2.1 e))
theorem RowAt.below {ks mb B : Nat} {w w' : World} {v : Value} {l : List Int} (h : RowAt ks mb B w v l) (hb : Below w.heap.size w w') : RowAt ks mb B w' v l := Kd.R_below h hb
theorem shList_calls (ks mb : Nat) (s : Sh) (x0 : Int) (x1 : ByteArray) (x2 : Int) (w : World) (h : ShAt ks mb w s) (hok : ShOk s) :
    Calls Tryz.prog 10 #[.iface 26 (.pointer (some ⟨ks, 0, none⟩)), .agg #[.int .i64 x0, .string x1, .int .i64 x2]] w fun e w' => ∃ A c, e = .returned (.tuple #[.slice A ((shPg ks mb).walk s (x0, x1, x2)).2.2.1.length c, .int .i64 ((shPg ks mb).walk s (x0, x1, x2)).2.2.2]) ∧
      ShAt ks mb w' ((shPg ks mb).walk s (x0, x1, x2)).1 ∧ Fr (ShF ks mb) w w' ∧ RowAt ks mb w.heap.size w' (.slice A ((shPg ks mb).walk s (x0, x1, x2)).2.2.1.length c) ((shPg ks mb).walk s (x0, x1, x2)).2.2.1 :=
  (list_calls (shPg ks mb) (ShF ks mb) s x0 x1 x2 w h.in_ hok).mono fun e w' hh => by
    obtain ⟨vl, he, F', ⟨h1, h2, h3⟩, hr⟩ := hh
    obtain ⟨A, c, rfl⟩ := Kd.R_slice hr
    exact ⟨A, c, he, h1.2.2.2, h3, Kd.R_mono hr (fun k hk => ⟨fun e => hk.1 (e ▸ h1.1), fun e => hk.1 (e ▸ h1.2.1), hk.2⟩)⟩
theorem shFreeChain_calls (ks mb : Nat) (s : Sh) (x0 : Int) (x1 : ByteArray) (x2 : Int) (w : World) (h : ShAt ks mb w s) (hok : ShOk s) :
    Calls Tryz.prog 16 #[.iface 26 (.pointer (some ⟨ks, 0, none⟩)), .agg #[.int .i64 x0, .string x1, .int .i64 x2]] w fun e w' => e = .returned (.int .i64 ((shPg ks mb).freeChain s (x0, x1, x2)).2) ∧
      ShAt ks mb w' ((shPg ks mb).freeChain s (x0, x1, x2)).1 ∧ Fr (ShF ks mb) w w' :=
  (free_calls (shPg ks mb) (ShF ks mb) s x0 x1 x2 w h.in_ hok).mono fun e w' hh => ⟨hh.1, by obtain ⟨F', h1, h2, h3⟩ := hh.2; exact ⟨h1.2.2.2, h3⟩⟩
/-- A block of the caller's own beside a shelf. -/
structure Beside (ks mb : Nat) (w : World) (g : Nat) (o : Obj) : Prop where
  at_ : w.heap[g]? = some o
  n1 : g ≠ ks
  n2 : g ≠ mb
theorem Beside.fr {ks mb g : Nat} {w w' : World} {o : Obj} (h : Beside ks mb w g o) (hf : Fr (ShF ks mb) w w') : Beside ks mb w' g o :=
  ⟨hf.blk h.at_ (fun hh => by rcases hh with e | e; exact h.n1 e; exact h.n2 e), h.n1, h.n2⟩
theorem Beside.below {ks mb g : Nat} {w w' : World} {o : Obj} (h : Beside ks mb w g o) (hb : Below w.heap.size w w') : Beside ks mb w' g o :=
  ⟨blk_below h.at_ hb, h.n1, h.n2⟩
theorem Beside.new {ks mb : Nat} {w : World} {s : Sh} (h : ShAt ks mb w s) (o : Obj) : Beside ks mb (w.alloc o) w.heap.size o :=
  ⟨blk_new w o, fun e => by have := h.lt; omega, fun e => by have := h.2.lt; omega⟩
theorem Good.ok {lim p : Int} {s : Sh} {u : List Int} {L : Nat} (h : Good lim s u p L) (hf : FullM s.f) : ShOk s := by
  have hs := h.sum
  have hl := h.left
  obtain ⟨t, c, h1, h2, h3, -⟩ := h
  refine ⟨by omega, by omega, ?_, ?_, ?_, ?_, hf⟩ <;> rw [h2] <;> dsimp only <;> omega
section
variable {P : Program} {ops : Array Oper} {C : World → Prop} {Q : Act → Prop} {a : Act} {o : Oper} {rest : List Oper}
/-- The rules of a region that reads and makes memory alone, at an operation with a guard, too. -/
theorem q_valw (hw : Region.wanted o (yielded ops a.tmps) = true) {v : Value} {a' : Act} (h : ∀ w', C w' → (execOp a.eval o).run P w' = .ok (.value v) w') (ha : a.put o.dst v = a') (hk : wpQuiet P ops C Q rest a') : wpQuiet P ops C Q (o :: rest) a :=
  wpQuiet_step fun K hK => by rw [if_pos hw]; exact quiet_val v h (hK _ (by rw [ha]; exact hk))
theorem q_callw (hw : Region.wanted o (yielded ops a.tmps) = true) {f : FuncId} {args : Array Value} {v : Value} {a' : Act} (h : ∀ w', C w' → (execOp a.eval o).run P w' = .ok (.enter f args) w')
    (hc : ∀ w', C w' → Calls P f args w' (fun e w'' => e = .returned v ∧ C w'')) (ha : a.put o.dst v = a') (hk : wpQuiet P ops C Q rest a') : wpQuiet P ops C Q (o :: rest) a :=
  wpQuiet_step fun K hK => by rw [if_pos hw]; exact quiet_call f args v h hc (hK _ (by rw [ha]; exact hk))
end
theorem strOfNums_size (l : List Int) : (strOfNums l).size = l.length := by rw [strOfNums_bs, bs_size, List.length_map]
theorem long_l0 : ∀ (d k n : Nat) (xs : List Int) (i : Nat), xs.length = n → n = i + d → d < k → n ≤ 1000000 → ∃ r, PChainReads.cahierlaw11_long.l0 k n xs i = some r ∧ r.size = n := by
  intro d
  induction d with
  | zero =>
    intro k n xs i hx hn hk hb
    obtain ⟨k, rfl⟩ : ∃ m, k = m + 1 := ⟨k - 1, by omega⟩
    refine ⟨strOfNums xs, ?_, by rw [strOfNums_size, hx]⟩
    simp only [PChainReads.cahierlaw11_long.l0]
    rw [if_neg (by omega)]
  | succ d ih =>
    intro k n xs i hx hn hk hb
    obtain ⟨k, rfl⟩ : ∃ m, k = m + 1 := ⟨k - 1, by omega⟩
    simp only [PChainReads.cahierlaw11_long.l0]
    rw [if_pos (by omega), if_pos (by omega), if_pos (by omega), show wrap64 ((i : Int) + 1) = ((i + 1 : Nat) : Int) by unfold wrap64; omega]
    exact ih k n _ (i + 1) (by rw [List.length_set, hx]) (by omega) (by omega) hb
theorem long_f (n : Nat) (h : n ≤ 1000000) : ∃ r : List UInt8, PChainReads.cahierlaw11_long.f (n + 1) n = some (bs r) ∧ r.length = n := by
  obtain ⟨r, h1, h2⟩ := long_l0 n (n + 1) n (List.replicate n 0) 0 (by simp) (by omega) (by omega) h
  refine ⟨r.data.toList, ?_, by rw [← h2]; exact data_length r⟩
  rw [bs_of]
  unfold PChainReads.cahierlaw11_long.f
  rw [if_pos (by omega), if_pos (by omega), Int.toNat_natCast]
  exact h1
theorem long_calls {n : Nat} {r : List UInt8} (h : PChainReads.cahierlaw11_long.f (n + 1) n = some (bs r)) (w : World) : Calls Tryz.prog 24 #[.int .i64 n] w fun e w' => e = .returned (.string (bs r)) ∧ Below w.heap.size w w' :=
  PChainReads.cahierlaw11_long.calls (n + 1) n (bs r) w h
end Go.Proofs.YtonbipaajhokfaaGreatDoor
end
section
set_option linter.unusedVariables false
set_option linter.unusedSimpArgs false
namespace Go.Proofs.YtonbipaajhokfaaGreatDoor
open Go.RowKit Go.Proofs.YtonbipaajhokfaaGreatDoorW.PrintWords Go.Proofs.YtonbipaajhokfaaGreatDoorW.PrintLast Go.Proofs.YtonbipaajhokfaaGreatDoorW.PrintMore
theorem or_byte (m b : Nat) (hm : m < 72057594037927936) (hb : b < 256) : Go.bits .or .u64 ((m : Int) * 256) (b : Int) = (m : Int) * 256 + b := by
  have e1 : BitVec.ofInt 64 ((m : Int) * 256) = BitVec.ofNat 64 (2 ^ 8 * m) := by
    rw [show (m : Int) * 256 = ((2 ^ 8 * m : Nat) : Int) by omega]
    exact BitVec.ofInt_natCast ..
  have e2 : BitVec.ofInt 64 (b : Int) = BitVec.ofNat 64 b := BitVec.ofInt_natCast ..
  show IntKind.u64.wrap (((BitVec.ofInt 64 ((m : Int) * 256) ||| BitVec.ofInt 64 (b : Int)).toNat : Nat) : Int) = _
  rw [e1, e2, BitVec.toNat_or, BitVec.toNat_ofNat, BitVec.toNat_ofNat, Nat.mod_eq_of_lt (by omega), Nat.mod_eq_of_lt (by omega), ← Nat.two_pow_add_eq_or_of_lt (by omega) m, IntKind.wrap_u64]
  omega
theorem refUn_l0 (s : ByteArray) (h8 : s.size ≤ 8) : ∀ (d j : Nat), j + d = s.size → ∀ k, PChainReads.cahierref01_Unfixed.l0 (k + d + 1) s (beV (s.data.toList.take j)) (j : Int) = some (beV s.data.toList, 0) := by
  intro d
  induction d with
  | zero =>
    intro j hj k
    rw [PChainReads.cahierref01_Unfixed.l0, if_neg (by omega), List.take_of_length_le (by rw [data_length]; omega)]
  | succ d ih =>
    intro j hj k
    have hb := beV_take_bd s.data.toList j (by rw [data_length]; omega) (by rw [data_length]; omega)
    have hn := beV_take_succ s.data.toList j (by rw [data_length]; omega)
    have hbt : bt s (j : Int) = ((s.data.toList.getD j 0).toNat : Int) := by
      rw [byte_at s j (by omega)]
      unfold bt
      rw [dif_pos (by simp; omega)]
      simp
    have hlt := (s.data.toList.getD j 0).toNat_lt
    obtain ⟨m, hm⟩ : ∃ m : Nat, beV (s.data.toList.take j) = m := ⟨(beV (s.data.toList.take j)).toNat, by omega⟩
    rw [PChainReads.cahierref01_Unfixed.l0, if_pos (by omega), if_pos (by omega), hbt]
    have h1 : IntKind.u64.wrap (beV (s.data.toList.take j) * 256) = (m : Int) * 256 := by rw [IntKind.wrap_u64]; omega
    have h2 : IntKind.u64.wrap ((s.data.toList.getD j 0).toNat : Int) = ((s.data.toList.getD j 0).toNat : Int) := by rw [IntKind.wrap_u64]; omega
    rw [h1, h2, or_byte m _ (by omega) hlt]
    have hw : wrap64 ((j : Int) + 1) = ((j + 1 : Nat) : Int) := by unfold wrap64; omega
    rw [hw, ← hm, ← hn]
    exact ih (j + 1) (by omega) k
theorem refUn (s : ByteArray) (h1 : 1 ≤ s.size) (h8 : s.size ≤ 8) : PChainReads.cahierref01_Unfixed.f (s.size + 2) s = some (beV s.data.toList, 0) := by
  unfold PChainReads.cahierref01_Unfixed.f
  rw [if_neg (by omega), decide_eq_false (by omega), PChainReads.cahierref01_Unfixed.j0, if_neg (show ¬ (false = true) from Bool.false_ne_true)]
  have := refUn_l0 s h8 s.size 0 (by omega) 0
  rw [show 0 + s.size + 1 = s.size + 1 by omega] at this
  exact this
theorem refUn_calls (s : ByteArray) (w : World) (h1 : 1 ≤ s.size) (h8 : s.size ≤ 8) :
    Calls Tryz.prog 30 #[.string s] w fun e w' => e = .returned (.tuple #[.int .u64 (beV s.data.toList), .int .i64 0]) ∧ Below w.heap.size w w' :=
  (PChainReads.cahierref01_Unfixed.calls (s.size + 2) s _ _ w (refUn s h1 h8)).mono fun _ _ h => ⟨h.1, h.2.below⟩
set_option maxRecDepth 100000 in
theorem refFresh_calls (w : World) : Calls Tryz.prog 33 #[] w fun e w' => e = .returned (.agg #[.int .i64 1, .int .i64 1, .int .i64 0, .int .i64 0, .int .i64 0, .int .u64 0]) ∧ Below w.heap.size w w' := by
  have hu35 := Tryz.underlying48
  go_enter Tryz.func33, Tryz.ntmps33
  go_wp2
  refine bodyPost_ret (results_c rfl _ _ w.heap.size 48 #[.int .i64 1, .int .i64 1, .int .i64 0, .int .i64 0, .int .i64 0, .int .u64 0] (0, 0) _ rfl (blk_new w _) Tryz.underlying48 rfl (by kernel_rfl)) rfl ?_
  exact ⟨rfl, below_alloc (Below.refl _ _) _⟩
set_option maxHeartbeats 4000000 in
set_option maxRecDepth 100000 in
theorem refTake_new (kb : Nat) (m p t sp r ch : Int) (w : World) (h0 : sp = 0) (hp0 : 0 ≤ p) (hp : p < 4096) :
    Calls Tryz.prog 35 #[.agg #[.int .i64 m, .int .i64 p, .int .i64 t, .int .i64 sp, .int .i64 r, .int .u64 ch], .pointer (some ⟨kb, 0, none⟩)] w fun e w' => e = .returned (.tuple #[.int .i64 p, (Hd.mk m (p + 1) t sp r ch).v, .int .i64 0]) ∧ Below w.heap.size w w' := by
  have hu35 := Tryz.underlying48
  have t0 : (sp == 0) = true := by simp [h0]
  have t1 : decide (4096 ≤ p) = false := decide_eq_false (by omega)
  clear h0
  go_enter Tryz.func35, Tryz.ntmps35
  go_wp2_with fail
  go_region
  go_wp2
  refine bodyPost_ret (results_tct rfl _ _ (w.heap.size + 1) 48 #[.int .i64 m, .int .i64 (p + 1), .int .i64 t, .int .i64 sp, .int .i64 r, .int .u64 ch] (0, 0) _ rfl ?_ Tryz.underlying48 rfl (by kernel_rfl)) rfl ?_
  · have := blk_new (w.alloc (.cells #[.int .i64 m, .int .i64 (p + 1), .int .i64 t, .int .i64 sp, .int .i64 r, .int .u64 ch] 48)) (.cells #[.int .i64 m, .int .i64 (p + 1), .int .i64 t, .int .i64 sp, .int .i64 r, .int .u64 ch] 48)
    refine blk_drew ?_
    simpa using this
  · exact ⟨rfl, below_drew (below_alloc (below_alloc (Below.refl _ _) _) _)⟩
end Go.Proofs.YtonbipaajhokfaaGreatDoor
end
