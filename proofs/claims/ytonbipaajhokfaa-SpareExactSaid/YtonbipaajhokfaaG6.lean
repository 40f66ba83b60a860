/-
  A desk and a book of the reference beside one another, and a head; what Take and Give leave of a live store.
-/
import Derived.Test.YtonbipaajhokfaaG5
set_option linter.unusedVariables false
set_option linter.unusedSimpArgs false
namespace Go.Proofs.Ytonbipaajhokfaa
open Go.RowKit Go.Proofs.YtonbipaajhokfaaW.PrintWords Go.Proofs.YtonbipaajhokfaaW.PrintLast Go.Proofs.YtonbipaajhokfaaW.PrintMore
variable {St : Type}

/-- What every call of a store keeps, Take and Give keep (two calls). -/
structure Keeps (S : Shop St) (P : Nat → St → Prop) : Prop where
  mono : ∀ {k s}, P (k + 1) s → P k s
  get : ∀ {k s} (n : Int), P (k + 1) s → P k (S.get s n).1
  put : ∀ {k s} (n : Int) (d : ByteArray), P (k + 1) s → P k (S.put s n d).1
theorem Keeps.trunk {S : Shop St} {P : Nat → St → Prop} (K : Keeps S P) {k : Nat} {s : St} (h : P (k + 1) s) (n : Int) : P k (S.trunk s n).1 := by
  unfold Shop.trunk
  dsimp only
  split
  · exact K.get n h
  · split <;> exact K.get n h
theorem Keeps.lay {S : Shop St} {P : Nat → St → Prop} (K : Keeps S P) {k : Nat} {s : St} (h : P (k + 1) s) (n next : Int) (l : List Int) : P k (S.lay s n next l).1 := by
  unfold Shop.lay
  split
  · exact K.put n _ h
  · exact K.mono h
theorem Keeps.take {S : Shop St} {P : Nat → St → Prop} (K : Keeps S P) {k : Nat} {s : St} (h : P (k + 2) s) (hd : Hd) : P k (S.take s hd).1 := by
  have h1 : P (k + 1) (S.trunk s hd.trunk).1 := K.trunk h _
  have h2 := fun l => K.lay h1 hd.trunk (S.trunk s hd.trunk).2.1 l
  unfold Shop.take
  repeat' split
  all_goals first | exact K.mono (K.mono h) | exact K.mono h1 | exact h2 _
theorem gaveOf_fst (r : St × Int) (h : Hd) : (gaveOf r h).1 = r.1 := by unfold gaveOf; split <;> rfl
theorem Keeps.give {S : Shop St} {P : Nat → St → Prop} (K : Keeps S P) {k : Nat} {s : St} (h : P (k + 2) s) (hd : Hd) (n : Int) : P k (S.give s hd n).1 := by
  have h1 : P (k + 1) (S.trunk s hd.trunk).1 := K.trunk h _
  unfold Shop.give
  repeat' split
  all_goals first | exact K.mono (K.mono h) | exact K.mono h1 | (rw [gaveOf_fst]; exact K.mono (K.lay h _ _ _)) | (rw [gaveOf_fst]; exact K.lay h1 _ _ _)

theorem putN_nodup {N : List Int} {n : Int} (h : N.Nodup) : (putN N n).Nodup := by
  unfold putN
  split
  · rename_i hp
    rw [List.nodup_append]
    refine ⟨h, by simp, fun a ha b hb => ?_⟩
    simp at hb
    subst hb
    intro e
    subst e
    obtain ⟨j, hj, e⟩ := List.getElem_of_mem ha
    have := firstAt_neg (p := eqB a) (l := N) hp j hj
    rw [List.getD_eq_getElem?_getD, List.getElem?_eq_getElem hj, e] at this
    simp [eqB] at this
  · exact h
/-- A desk in use: k more calls, no number twice. -/
def DeskOk (kd kb k : Nat) (s : Desk) : Prop := (deskLive kd kb).ok k s ∧ s.N.Nodup ∧ s.left < 0
theorem desk_keeps (kd kb : Nat) : Keeps (deskShop kd kb) (DeskOk kd kb) where
  mono := fun h => ⟨(deskLive kd kb).mono h.1, h.2⟩
  get := fun {k s} n h => by
    obtain ⟨s', e, h1, -⟩ := (deskLive kd kb).get n h.1
    have e2 : Desk.get s n = ({ s with left := wrap64 (s.left - 1) }, getB s.N s.D n, 0) := by unfold Desk.get; rw [if_neg (by have := h.2.2; omega)]
    have e3 : (deskShop kd kb).get s n = Desk.get s n := rfl
    rw [e3, e2] at e ⊢
    cases e
    refine ⟨h1, h.2.1, ?_⟩
    have := h1.2.2
    have h4 := h.2.2
    have h5 := h.1.2.2
    simp only at this ⊢
    unfold wrap64 at this ⊢
    omega
  put := fun {k s} n d h => by
    obtain ⟨s', e, h1, -⟩ := (deskLive kd kb).put n d h.1
    have e2 : Desk.put s n d = (⟨putN s.N n, putD s.N s.D n d, wrap64 (s.left - 1)⟩, 0) := by unfold Desk.put; rw [if_neg (by have := h.2.2; omega)]
    have e3 : (deskShop kd kb).put s n d = Desk.put s n d := rfl
    rw [e3, e2] at e ⊢
    cases e
    refine ⟨h1, putN_nodup h.2.1, ?_⟩
    have h4 := h.2.2
    have h5 := h.1.2.2
    simp only
    unfold wrap64
    omega
theorem getB_at {N : List Int} {D : List ByteArray} (hn : N.Nodup) (hl : N.length = D.length) (k : Nat) (hk : k < N.length) : getB N D (N.getD k 0) = D.getD k ByteArray.empty := by
  have h1 : placeOf N (N.getD k 0) = k := firstAt_at hk (fun j hj => by
    rw [eqB, decide_eq_false_iff_not, List.getD_eq_getElem?_getD, List.getD_eq_getElem?_getD, List.getElem?_eq_getElem (by omega), List.getElem?_eq_getElem hk]
    intro e
    have := (List.getElem_inj hn).1 e
    omega) (by simp [eqB])
  unfold getB
  rw [h1, if_neg (by omega), Int.toNat_natCast]

structure Two (kd kb kr B g : Nat) (w0 w : World) (s : Desk) (N : List Int) (D : List ByteArray) (hd : Hd) (F G : Nat → Prop) : Prop where
  hold : Hold (deskShop kd kb) B w0 w s F
  book : BookAt w G kr N D
  apart : ∀ k, F k → ¬ G k
  gB : ∀ k, G k → B ≤ k
  nF : ¬ F g
  nG : ¬ G g
  hB : B ≤ g
  head : w.heap[g]? = some (.cells #[.int .i64 hd.mode, .int .i64 hd.pages, .int .i64 hd.trunk, .int .i64 hd.spare, .int .i64 hd.root, .int .u64 hd.change] 35 (0, 0))
section
variable {kd kb kr B g : Nat} {w0 w w' : World} {s s' : Desk} {N : List Int} {D : List ByteArray} {hd : Hd} {F G : Nat → Prop}
/-- What stood beside both stands still, beside both. -/
def Aloof (F G F' G' : Nat → Prop) (w w' : World) : Prop := ∀ q o, w.heap[q]? = some o → ¬ F q → ¬ G q → w'.heap[q]? = some o ∧ ¬ F' q ∧ ¬ G' q
theorem Aloof.past {F' : Nat → Prop} (h : Past F F' w w') : Aloof F G F' G w w' := fun q o hq hf hg => ⟨h.blk hq hf, h.out hq hf, hg⟩
theorem Aloof.goes {G' : Nat → Prop} (h : Fr G w w') (hs : ∀ k, G' k → G k ∨ w.heap.size ≤ k) : Aloof F G F G' w w' := fun q o hq hf hg =>
  ⟨h.blk hq hg, hf, fun hh => by rcases hs q hh with h1 | h1; exact hg h1; have := blk_lt hq; omega⟩
theorem Two.fresh (h : Two kd kb kr B g w0 w s N D hd F G) : ¬ F w.heap.size ∧ ¬ G w.heap.size :=
  ⟨h.hold.fresh, fun hg => by have := h.book.2.1 _ hg; omega⟩
theorem Two.size (h : Two kd kb kr B g w0 w s N D hd F G) : B ≤ w.heap.size := h.hold.2.2.2
theorem Two.base (h : Two kd kb kr B g w0 w s N D hd F G) : Below B w0 w := h.hold.2.2.1
theorem Two.below (h : Two kd kb kr B g w0 w s N D hd F G) (hb : Below w.heap.size w w') : Two kd kb kr B g w0 w' s N D hd F G :=
  ⟨h.hold.below hb, h.book.below hb, h.apart, h.gB, h.nF, h.nG, h.hB, blk_below h.head hb⟩
theorem Two.past {F' : Nat → Prop} (h : Two kd kb kr B g w0 w s N D hd F G) (hh : Hold (deskShop kd kb) B w0 w' s' F') (hp : Past F F' w w') : Two kd kb kr B g w0 w' s' N D hd F' G :=
  ⟨hh, h.book.keep (fun k hk => (hp.2 k (h.book.2.1 k hk) (fun hf => h.apart k hf hk)).2) hp.1,
    fun k hk hg => (hp.2 k (h.book.2.1 k hg) (fun hf => h.apart k hf hg)).1 hk, h.gB, hp.out h.head h.nF, h.nG, h.hB, hp.blk h.head h.nF⟩
theorem Two.goes {N' : List Int} {D' : List ByteArray} (h : Two kd kb kr B g w0 w s N D hd F G) (hg : Goes (fun G' => BookAt w' G' kr N' D') G w w') : ∃ G', Two kd kb kr B g w0 w' s N' D' hd F G' ∧ Aloof F G F G' w w' := by
  obtain ⟨G', g1, g2, g3⟩ := hg
  obtain ⟨h1, h2, h3, h4⟩ := h.hold
  have hb := S_bound h.hold
  exact ⟨G', ⟨⟨Shop.keep _ h1 (fun k hk => g3.block k (hb k hk) (h.apart k hk)) g3.size, h2, h3.trans (g3.below h.gB h4), Nat.le_trans h4 g3.size⟩, g1,
    fun k hk hg => by rcases g2 k hg with h5 | h5; exact h.apart k hk h5; have := hb k hk; omega,
    fun k hk => by rcases g2 k hk with h5 | h5; exact h.gB k h5; omega,
    h.nF, fun hk => by rcases g2 g hk with h5 | h5; exact h.nG h5; have := blk_lt h.head; omega, h.hB, g3.blk h.head h.nG⟩, Aloof.goes g3 g2⟩
theorem Two.set6 (h : Two kd kb kr B g w0 w s N D hd F G) (m p t sp r ch : Int) :
    Two kd kb kr B g w0 ((((((w.setCell ⟨g, 0, none⟩ (.int .i64 m)).setCell ⟨g, 1, none⟩ (.int .i64 p)).setCell ⟨g, 2, none⟩ (.int .i64 t)).setCell ⟨g, 3, none⟩ (.int .i64 sp)).setCell ⟨g, 4, none⟩ (.int .i64 r)).setCell ⟨g, 5, none⟩ (.int .u64 ch)) s N D ⟨m, p, t, sp, r, ch⟩ F G :=
  ⟨h.hold.set6 h.nF h.hB _ _ _ _ _ _, bk6 h.book h.nG _ _ _ _ _ _, h.apart, h.gB, h.nF, h.nG, h.hB, put6 h.head _ _ _ _ _ _⟩
theorem Two.take {m p t sp r ch x m' p' t' sp' r' ch' e' : Int} (h : Two kd kb kr B g w0 w s N D hd F G)
    (E : (deskShop kd kb).take s ⟨m, p, t, sp, r, ch⟩ = (s', x, ⟨m', p', t', sp', r', ch'⟩, e')) (hfit : s.N.length < 1048576) (hp0 : 0 ≤ p) (hs0 : 0 ≤ sp) (hs1 : sp ≤ 4096) :
    Calls Try.prog 20 #[.agg #[.int .i64 m, .int .i64 p, .int .i64 t, .int .i64 sp, .int .i64 r, .int .u64 ch], .iface 38 (.pointer (some ⟨kd, 0, none⟩))] w fun e w' =>
      e = .returned (.tuple #[.int .i64 x, .agg #[.int .i64 m', .int .i64 p', .int .i64 t', .int .i64 sp', .int .i64 r', .int .u64 ch'], .int .i64 e']) ∧ ∃ F', Two kd kb kr B g w0 w' s' N D hd F' G ∧ Aloof F G F' G w w' :=
  (h.hold.takeE E hfit hp0 hs0 hs1).mono fun _ _ hh => ⟨hh.1, by obtain ⟨F', h1, h2⟩ := hh.2; exact ⟨F', h.past h1 h2, Aloof.past h2⟩⟩
theorem Two.give {m p t sp r ch n m' p' t' sp' r' ch' e' : Int} (h : Two kd kb kr B g w0 w s N D hd F G)
    (E : (deskShop kd kb).give s ⟨m, p, t, sp, r, ch⟩ n = (s', ⟨m', p', t', sp', r', ch'⟩, e')) (hfit : s.N.length < 1048576) (hp0 : 0 ≤ p) (hp1 : p ≤ 4096) (hs0 : 0 ≤ sp) :
    Calls Try.prog 22 #[.agg #[.int .i64 m, .int .i64 p, .int .i64 t, .int .i64 sp, .int .i64 r, .int .u64 ch], .iface 38 (.pointer (some ⟨kd, 0, none⟩)), .int .i64 n] w fun e w' =>
      e = .returned (.tuple #[.agg #[.int .i64 m', .int .i64 p', .int .i64 t', .int .i64 sp', .int .i64 r', .int .u64 ch'], .int .i64 e']) ∧ ∃ F', Two kd kb kr B g w0 w' s' N D hd F' G ∧ Aloof F G F' G w w' :=
  (h.hold.giveE E hfit hp0 hp1 hs0).mono fun _ _ hh => ⟨hh.1, by obtain ⟨F', h1, h2⟩ := hh.2; exact ⟨F', h.past h1 h2, Aloof.past h2⟩⟩
theorem Two.rtake {s0 : Desk} {m p t sp r ch x m' p' t' sp' r' ch' e' : Int} (h : Two kd kb kr B g w0 w s s0.N s0.D hd F G)
    (E : (deskShop kd kb).take s0 ⟨m, p, t, sp, r, ch⟩ = (s', x, ⟨m', p', t', sp', r', ch'⟩, e')) (hf : FitP ⟨m, p, t, sp, r, ch⟩) (hl : s0.left < 0 ∧ -9000000000000000000 ≤ s0.left) (hfit : s0.N.length < 1048576) :
    Calls Try.prog 21 #[.agg #[.int .i64 m, .int .i64 p, .int .i64 t, .int .i64 sp, .int .i64 r, .int .u64 ch], .pointer (some ⟨kr, 0, none⟩)] w fun e w' =>
      e = .returned (.tuple #[.int .i64 x, .agg #[.int .i64 m', .int .i64 p', .int .i64 t', .int .i64 sp', .int .i64 r', .int .u64 ch'], .int .i64 e']) ∧ ∃ G', Two kd kb kr B g w0 w' s s'.N s'.D hd F G' ∧ Aloof F G F G' w w' := by
  have := rtake_calls kd kb kr G s0 ⟨m, p, t, sp, r, ch⟩ w h.book hf hl hfit
  rw [E] at this
  exact this.mono fun _ _ hh => ⟨hh.1, h.goes hh.2⟩
theorem Two.rgive {s0 : Desk} {m p t sp r ch n m' p' t' sp' r' ch' e' : Int} (h : Two kd kb kr B g w0 w s s0.N s0.D hd F G)
    (E : (deskShop kd kb).give s0 ⟨m, p, t, sp, r, ch⟩ n = (s', ⟨m', p', t', sp', r', ch'⟩, e')) (hf : FitP ⟨m, p, t, sp, r, ch⟩) (hl : s0.left < 0 ∧ -9000000000000000000 ≤ s0.left) (hfit : s0.N.length < 1048576) :
    Calls Try.prog 23 #[.agg #[.int .i64 m, .int .i64 p, .int .i64 t, .int .i64 sp, .int .i64 r, .int .u64 ch], .pointer (some ⟨kr, 0, none⟩), .int .i64 n] w fun e w' =>
      e = .returned (.tuple #[.agg #[.int .i64 m', .int .i64 p', .int .i64 t', .int .i64 sp', .int .i64 r', .int .u64 ch'], .int .i64 e']) ∧ ∃ G', Two kd kb kr B g w0 w' s s'.N s'.D hd F G' ∧ Aloof F G F G' w w' := by
  have := rgive_calls kd kb kr G s0 ⟨m, p, t, sp, r, ch⟩ n w h.book hf hl hfit
  rw [E] at this
  exact this.mono fun _ _ hh => ⟨hh.1, h.goes hh.2⟩
end
end Go.Proofs.Ytonbipaajhokfaa
