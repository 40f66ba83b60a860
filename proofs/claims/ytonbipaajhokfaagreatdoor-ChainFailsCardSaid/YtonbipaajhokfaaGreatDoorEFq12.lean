/-
  Of this claim's texts, laid together by wip/gen/squeeze.py: N11 N12 N13 N14 N15.
-/
import Derived.Test.YtonbipaajhokfaaGreatDoorEFq11
section
set_option linter.unusedVariables false
set_option linter.unusedSimpArgs false
namespace Go.Proofs.YtonbipaajhokfaaGreatDoor
open Go.RowKit Go.Proofs.YtonbipaajhokfaaGreatDoorW.PrintWords
section
variable {lim p : Int} {s : Sh} {u : List Int} {L : Nat}
theorem Good.newk (h : Good lim s u p L) (mb : Nat) (hu : (u.length : Int) + 1 < lim) :
    ∃ s' n p' L', s.new mb = (s', n, 0) ∧ Good lim s' (u ++ [n]) p' L' ∧ n ∉ u ∧ 1 ≤ n ∧ n < 4096 ∧ L' ≤ L ∧ ∀ y ∈ u, readB s'.f y = readB s.f y := by
  obtain ⟨s', nn, p', L', h1, h2, h3, h4, h5, h6, h7, h8⟩ := h.new2 mb hu
  have hk := fun y => new_keep mb s y
  rw [h1] at hk
  have hs := h.sum
  exact ⟨s', nn, p', L', h1, h2, h6, h3, by omega, h8, fun y hy => hk y (h.trunk hy) (fun e => h6 (by have e' : y = nn := e; rw [← e']; exact hy))⟩
theorem Good.putk (h : Good lim s u p L) (mb : Nat) {n : Int} {d : ByteArray} (hn : n ∈ u) (hd : d.size = 232) :
    ∃ s', s.put n d = (s', 0) ∧ Good lim s' u p L ∧ readB s'.f n = d ∧ ∀ y, y ≠ n → readB s'.f y = readB s.f y := by
  obtain ⟨h1, h2⟩ := h.put mb hn hd
  exact ⟨_, h1, h2, by dsimp only; rw [upd_look, if_pos rfl], fun y hy => by dsimp only; rw [upd_look, if_neg hy]⟩
theorem Good.freek {a b : List Int} {n : Int} (h : Good lim s (a ++ n :: b) p L) (mb : Nat) :
    ∃ s', s.free mb n = (s', 0) ∧ Good lim s' (a ++ b) p (L + 1) ∧ ∀ y ∈ a ++ b, readB s'.f y = readB s.f y := by
  have hk : a.length < (a ++ n :: b).length := by simp
  obtain ⟨s', h1, h2⟩ := h.free mb hk
  have e1 : (a ++ n :: b).getD a.length 0 = n := by simp
  have e2 : (a ++ n :: b).take a.length ++ (a ++ n :: b).drop (a.length + 1) = a ++ b := by simp
  rw [e1] at h1
  rw [e2] at h2
  refine ⟨s', h1, h2, fun y hy => ?_⟩
  have hf := free_keep mb s n y
  rw [h1] at hf
  have hnd := h.nodup.1
  have hp : (a ++ n :: b).Perm (n :: (a ++ b)) := List.perm_middle
  have hnd2 := (hp.nodup_iff).1 hnd
  exact hf (h.trunk (hp.mem_iff.2 (List.mem_cons_of_mem _ hy))) (fun e => (List.nodup_cons.1 hnd2).1 (e ▸ hy))
theorem Good.getk (h : Good lim s u p L) {n : Int} (hn : n ∈ u) : (s.dec, (s.get n).1, (s.get n).2) = (s, readB s.f n, 0) := by
  have hb := h.nodup.2 n hn
  have hd := Sh.dec_le (s := s) (by rw [h.left]; decide)
  unfold Sh.get
  rw [h.beg hb.1 hb.2, if_neg (by decide), hd]
end
/-- The pages ns hold v's parts from part j on. -/
def Laid (look : Int → ByteArray) (v : List UInt8) : Nat → List Int → Prop
  | _, [] => True
  | j, n :: r => look n = bs (partL ((v.drop (j * 227)).take 227) (r.headD 0)) ∧ Laid look v (j + 1) r
theorem Laid.keep {look look' : Int → ByteArray} {v : List UInt8} : ∀ {j : Nat} {ns : List Int}, Laid look v j ns → (∀ y ∈ ns, look' y = look y) → Laid look' v j ns
  | _, [], _, _ => trivial
  | j, n :: r, h, hk => ⟨(hk n (by simp)).trans h.1, Laid.keep h.2 (fun y hy => hk y (by simp [hy]))⟩
theorem wrap_u64_small {n : Int} (h0 : 0 ≤ n) (h1 : n < 4294967296) : IntKind.u64.wrap n = n := by rw [IntKind.wrap_u64]; omega
theorem nextOf_partL {part : List UInt8} {next : Int} (h0 : 0 ≤ next) (h1 : next < 4294967296) : nextOf (partL part next) = next := by
  unfold nextOf partL
  rw [wrap_u64_small h0 h1]
  have : ((3 :: be4 next ++ part ++ List.replicate (227 - part.length) 0).drop 1).take 4 = be4 next := by
    simp only [List.cons_append, List.drop_succ_cons, List.drop_zero, List.append_assoc]
    rw [List.take_append_of_le_length (by rw [be4_length]; exact Nat.le_refl _), List.take_of_length_le (by rw [be4_length]; exact Nat.le_refl _)]
  rw [this, beV_be4 next h0 h1]
theorem drop5_partL (part : List UInt8) (next : Int) : (partL part next).drop 5 = part ++ List.replicate (227 - part.length) 0 := by
  unfold partL
  rw [List.append_assoc]
  exact List.drop_left' (by simp [be4_length])
theorem isKind_partL (part : List UInt8) (next : Int) : isKind (partL part next) = true := by
  unfold isKind Lib.hasPrefix partL
  simp
theorem pageOk_partL {v : List UInt8} {j : Nat} {next : Int} (h0 : 0 ≤ next) (h1 : next < 4294967296) (hn : next = 0 ↔ v.length - j * 227 ≤ 227) (hj : j * 227 < v.length) :
    pageOk (partL ((v.drop (j * 227)).take 227) next) (v.length - j * 227) = true := by
  have hl : ((v.drop (j * 227)).take 227).length = min 227 (v.length - j * 227) := by rw [List.length_take, List.length_drop]
  unfold pageOk
  rw [isKind_partL, nextOf_partL h0 h1]
  have e1 : (next == 0) = decide (v.length - j * 227 ≤ 227) := by
    by_cases h : next = 0
    · rw [decide_eq_true (hn.1 h)]; simp [h]
    · rw [decide_eq_false (fun hh => h (hn.2 hh))]; simp [h]
  rw [e1]
  unfold restOk
  rw [drop5_partL]
  have e2 : (((v.drop (j * 227)).take 227 ++ List.replicate (227 - ((v.drop (j * 227)).take 227).length) 0).drop (v.length - j * 227)).all (· == 0) = true := by
    rw [List.drop_append, List.drop_of_length_le (by omega), List.nil_append, List.all_eq_true]
    intro x hx
    have := List.mem_of_mem_drop hx
    simp [List.mem_replicate] at this
    simp [this.2]
  rw [e2]
  simp
theorem take_partL {v : List UInt8} {j : Nat} {next : Int} (hj : j * 227 < v.length) : ((partL ((v.drop (j * 227)).take 227) next).drop 5).take (v.length - j * 227) = (v.drop (j * 227)).take 227 := by
  have hl : ((v.drop (j * 227)).take 227).length = min 227 (v.length - j * 227) := by rw [List.length_take, List.length_drop]
  rw [drop5_partL, List.take_append]
  have e2 : (List.replicate (227 - ((v.drop (j * 227)).take 227).length) (0 : UInt8)).take (v.length - j * 227 - ((v.drop (j * 227)).take 227).length) = [] := by
    rw [List.take_replicate, hl]
    rw [show min (v.length - j * 227 - min 227 (v.length - j * 227)) (227 - min 227 (v.length - j * 227)) = 0 by omega]
    rfl
  rw [e2, List.append_nil, List.take_of_length_le (by omega)]
/-- Following a chain that is laid. -/
theorem follow_laid (ks mb : Nat) {lim p : Int} {s : Sh} {u : List Int} {L : Nat} (h : Good lim s u p L) {v : List UInt8} :
    ∀ (ns : List Int) (j : Nat) (out : List UInt8) (l : List Int) (n : Int), Laid (readB s.f) v j ns → (∀ y ∈ ns, y ∈ u) → ns.headD 0 = n → (ns.length = 0 ∧ v.length ≤ j * 227 ∨ j * 227 < v.length ∧ ns.length = parts (v.length - j * 227)) →
      (shPg ks mb).follow ns.length s n (v.length - j * 227) out l = (s, out ++ v.drop (j * 227), l ++ ns, 0) := by
  intro ns
  induction ns with
  | nil =>
    intro j out l n hl hu hn hc
    have hle : v.length ≤ j * 227 := by
      rcases hc with h | h
      · exact h.2
      · have := h.2; unfold parts at this; simp at this
    show (s, out, l, (0 : Int)) = _
    rw [List.drop_of_length_le hle, List.append_nil, List.append_nil]
  | cons m r ih =>
    intro j out l n hl hu hn hc
    obtain ⟨hlook, hrest⟩ := hl
    simp at hn
    subst hn
    rcases hc with h0 | ⟨hj, hlen⟩
    · simp at h0
    · have hm := hu m (by simp)
      have hg := h.getk hm
      rw [hlook] at hg
      have hnext : 0 ≤ r.headD 0 ∧ r.headD 0 < 4096 ∧ (r ≠ [] → 1 ≤ r.headD 0) := by
        cases r with
        | nil => simp
        | cons x q =>
          have h2 := h.nodup.2 x (hu x (by simp))
          have h3 := h.sum
          simp only [List.headD_cons]
          exact ⟨by omega, by omega, fun _ => h2.1⟩
      have hlr : r.length + 1 = parts (v.length - j * 227) := by simpa using hlen
      have hiff : r.headD 0 = 0 ↔ v.length - j * 227 ≤ 227 := by
        cases r with
        | nil => simp; unfold parts at hlr; simp at hlr; omega
        | cons x q =>
          have h1 := hnext.2.2 (by simp)
          simp only [List.headD_cons] at h1 ⊢
          simp at hlr
          unfold parts at hlr
          constructor <;> intro hh <;> omega
      have hok := pageOk_partL (v := v) (j := j) hnext.1 (by omega) hiff hj
      rw [List.length_cons, follow_step (P := shPg ks mb) (s := s) (s1 := s) (e1 := 0) (pg := partL ((v.drop (j * 227)).take 227) (r.headD 0)) hg.symm rfl hok, nextOf_partL hnext.1 (by omega), take_partL hj]
      rw [show v.length - j * 227 - 227 = v.length - (j + 1) * 227 by omega]
      rw [ih (j + 1) _ _ _ hrest (fun y hy => hu y (by simp [hy])) rfl (by
        by_cases hr : r = []
        · subst hr; left; simp at hlr; unfold parts at hlr; exact ⟨rfl, by omega⟩
        · right
          have : 0 < r.length := List.length_pos_iff.2 hr
          unfold parts at hlr ⊢
          constructor <;> omega)]
      rw [List.append_assoc, List.append_assoc, show (j + 1) * 227 = j * 227 + 227 by omega, ← List.drop_drop, List.take_append_drop]
      rfl
/-- Laying: k parts, behind those that are laid. -/
theorem lay_good (ks mb : Nat) {lim : Int} {v : List UInt8} (hv : v.length ≤ 5000) :
    ∀ (k : Nat) {p : Int} {s : Sh} {u ns : List Int} {L : Nat}, Good lim s (u ++ ns) p L → Laid (readB s.f) v k ns → (∀ y ∈ ns, y ∉ u) → ((u ++ ns).length : Int) + k < lim →
      ∃ s' ms p' L', (shPg ks mb).lay v k s (ns.headD 0) = (s', ms.headD 0, 0) ∧ Good lim s' (u ++ ms) p' L' ∧ Laid (readB s'.f) v 0 ms ∧ ms.length = k + ns.length ∧ (∀ y ∈ ms, y ∉ u) ∧ (∀ y ∈ u, readB s'.f y = readB s.f y) ∧ L' ≤ L := by
  intro k
  induction k with
  | zero => intro p s u ns L h hl hd hr; exact ⟨s, ns, p, L, rfl, h, hl, by simp, hd, fun _ _ => rfl, Nat.le_refl _⟩
  | succ k ih =>
    intro p s u ns L h hl hd hr
    obtain ⟨s1, n, p1, L1, a1, a2, a3, a4, a5, a6, a7⟩ := h.newk mb (by omega)
    have hnm : n ∈ u ++ ns ++ [n] := by simp
    obtain ⟨s2, b1, b2, b3, b4⟩ := a2.putk mb hnm (d := bs (partL ((v.drop (k * 227)).take 227) (ns.headD 0))) (by rw [bs_size]; exact partL_length (by rw [List.length_take]; omega) _)
    have hg : Good lim s2 (u ++ (n :: ns)) p1 L1 := by
      obtain ⟨t, c, h1, h2, h3, h4, h5, h6, h7, h8⟩ := b2
      refine ⟨t, c, h1, h2, h3, h4, h5, ?_, h7, h8⟩
      obtain ⟨i1, i2, i3⟩ := h6
      have hp : (u ++ ns ++ [n]).Perm (u ++ n :: ns) := by
        have e1 : (u ++ ns ++ [n]).Perm (n :: (u ++ ns)) := List.perm_append_singleton n (u ++ ns)
        exact e1.trans List.perm_middle.symm
      have hp2 := hp.append_right (flat c)
      exact ⟨by rw [i1, hp.length_eq], (hp2.nodup_iff).1 i2, fun y hy => i3 y (hp2.mem_iff.2 hy)⟩
    have hne : ∀ y ∈ u ++ ns, y ≠ n := fun y hy e => a3 (e ▸ hy)
    have hlook : ∀ y ∈ u ++ ns, readB s2.f y = readB s.f y := fun y hy => (b4 y (hne y hy)).trans (a7 y hy)
    obtain ⟨s', ms, p', L', c1, c2, c3, c4, c5, c6, c7⟩ := ih hg ⟨b3, hl.keep (fun y hy => hlook y (List.mem_append_right _ hy))⟩ (fun y hy => by
      rcases List.mem_cons.1 hy with e | e
      · rw [e]; exact fun hm => a3 (List.mem_append_left _ hm)
      · exact hd y e) (by simp at hr ⊢; omega)
    refine ⟨s', ms, p', L', ?_, c2, c3, by rw [c4, List.length_cons]; omega, c5, fun y hy => (c6 y hy).trans (hlook y (List.mem_append_left _ hy)), by omega⟩
    rw [lay_step (P := shPg ks mb) (s := s) (s1 := s1) (n1 := n) (e1 := 0) (s3 := s2) (e3 := 0) a1.symm rfl rfl b1.symm rfl]
    exact c1
def partsOf (n : Nat) : Nat := if n ≤ 40 then 0 else parts n
/-- What a cell and its pages are: the value v. -/
def Means (look : Int → ByteArray) (c : Cel) (v : List UInt8) (ns : List Int) : Prop :=
  if v.length ≤ 40 then c = ((v.length : Int), bs v, 0) ∧ ns = [] else c = ((v.length : Int), ⟨#[]⟩, ns.headD 0) ∧ ns.length = parts v.length ∧ Laid look v 0 ns
theorem Means.keep {look look' : Int → ByteArray} {c : Cel} {v : List UInt8} {ns : List Int} (h : Means look c v ns) (hk : ∀ y ∈ ns, look' y = look y) : Means look' c v ns := by
  unfold Means at h ⊢
  split
  · rename_i h1; rw [if_pos h1] at h; exact h
  · rename_i h1; rw [if_neg h1] at h; exact ⟨h.1, h.2.1, h.2.2.keep hk⟩
theorem Means.len {look : Int → ByteArray} {c : Cel} {v : List UInt8} {ns : List Int} (h : Means look c v ns) : ns.length = partsOf v.length := by
  unfold Means at h
  unfold partsOf
  split at h
  · rename_i h1; rw [if_pos h1, h.2]; rfl
  · rename_i h1; rw [if_neg h1, h.2.1]
theorem cell_good (ks mb : Nat) {lim p : Int} {s : Sh} {u : List Int} {L : Nat} (h : Good lim s u p L) {v : List UInt8} (hv : v.length ≤ 5000) (hr : (u.length : Int) + partsOf v.length < lim) :
    ∃ s' c ns p' L', (shPg ks mb).cell s v = (s', c, 0) ∧ Good lim s' (u ++ ns) p' L' ∧ Means (readB s'.f) c v ns ∧ (∀ y ∈ ns, y ∉ u) ∧ (∀ y ∈ u, readB s'.f y = readB s.f y) ∧ L' ≤ L := by
  unfold partsOf at hr
  by_cases h40 : v.length ≤ 40
  · refine ⟨s, ((v.length : Int), bs v, 0), [], p, L, ?_, by rw [List.append_nil]; exact h, ?_, fun y hy => by simp at hy, fun _ _ => rfl, Nat.le_refl _⟩
    · unfold Pg.cell; rw [if_neg (by omega), if_pos h40]
    · unfold Means; rw [if_pos h40]; exact ⟨rfl, rfl⟩
  · rw [if_neg h40] at hr
    obtain ⟨s', ms, p', L', c1, c2, c3, c4, c5, c6, c7⟩ := lay_good ks mb hv (parts v.length) (u := u) (ns := []) (by rw [List.append_nil]; exact h) trivial (fun y hy => by simp at hy) (by simpa using hr)
    refine ⟨s', ((v.length : Int), ⟨#[]⟩, ms.headD 0), ms, p', L', cell_ok (by omega) hv c1, c2, ?_, c5, c6, c7⟩
    unfold Means; rw [if_neg h40]
    exact ⟨rfl, by simpa using c4, c3⟩
theorem walk_means (ks mb : Nat) {lim p : Int} {s : Sh} {u : List Int} {L : Nat} (h : Good lim s u p L) {c : Cel} {v : List UInt8} {ns : List Int} (hv : v.length ≤ 5000) (hm : Means (readB s.f) c v ns) (hu : ∀ y ∈ ns, y ∈ u) :
    cellGood c.1 c.2.1 c.2.2 = true ∧ (shPg ks mb).walk s c = (s, v, ns, 0) := by
  unfold Means at hm
  split at hm
  · rename_i h40
    obtain ⟨rfl, rfl⟩ := hm
    have hg : cellGood (v.length : Int) (bs v) 0 = true := by unfold cellGood; rw [if_neg (by omega), if_pos (by omega)]; simp [bs_size]
    refine ⟨hg, ?_⟩
    unfold Pg.walk
    dsimp only
    rw [if_neg (by simp [hg]), if_pos rfl, bs_list]
  · rename_i h40
    obtain ⟨rfl, h2, h3⟩ := hm
    have h1 : 1 ≤ ns.headD 0 ∧ ns.headD 0 < 4096 := by
      cases ns with
      | nil => unfold parts at h2; simp at h2
      | cons x q =>
        have h4 := h.nodup.2 x (hu x (by simp))
        have h5 := h.sum
        exact ⟨h4.1, by simp only [List.headD_cons]; omega⟩
    have hg : cellGood (v.length : Int) (⟨#[]⟩ : ByteArray) (ns.headD 0) = true := by
      unfold cellGood; rw [if_neg (by omega), if_neg (by omega)]
      simp only [Bool.and_eq_true, decide_eq_true_eq]
      exact ⟨rfl, (pageB_iff _).2 h1⟩
    refine ⟨hg, ?_⟩
    unfold Pg.walk
    dsimp only
    rw [if_neg (by rw [hg]; decide), if_neg (by omega), Int.toNat_natCast, ← h2]
    have := follow_laid ks mb h ns 0 [] [] (ns.headD 0) h3 hu rfl (Or.inr ⟨by omega, by rw [h2, Nat.zero_mul, Nat.sub_zero]⟩)
    rw [Nat.zero_mul, Nat.sub_zero] at this
    rw [this]
    simp
theorem freeAll_good (ks mb : Nat) {lim : Int} : ∀ (ns : List Int) {p : Int} {s : Sh} {a b : List Int} {L : Nat}, Good lim s (a ++ ns ++ b) p L →
    ∃ s', (shPg ks mb).freeAll ns s = (s', 0) ∧ Good lim s' (a ++ b) p (L + ns.length) ∧ ∀ y ∈ a ++ b, readB s'.f y = readB s.f y := by
  intro ns
  induction ns with
  | nil => intro p s a b L h; exact ⟨s, rfl, by simpa using h, fun _ _ => rfl⟩
  | cons n r ih =>
    intro p s a b L h
    obtain ⟨s1, h1, h2, h3⟩ := Good.freek (a := a) (n := n) (b := r ++ b) (by simpa using h) mb
    obtain ⟨s2, g1, g2, g3⟩ := ih (a := a) (b := b) (by simpa using h2)
    refine ⟨s2, ?_, ?_, fun y hy => (g3 y hy).trans (h3 y ?_)⟩
    · rw [freeAll_step (P := shPg ks mb) (s3 := s1) (e3 := 0) h1.symm rfl]; exact g1
    · rw [List.length_cons, show L + (r.length + 1) = L + 1 + r.length by omega]; exact g2
    · rcases List.mem_append.1 hy with e | e
      · exact List.mem_append_left _ e
      · exact List.mem_append_right _ (List.mem_append_right _ e)
theorem freeChain_good (ks mb : Nat) {lim p : Int} {s : Sh} {a b : List Int} {L : Nat} {c : Cel} {v : List UInt8} {ns : List Int} (h : Good lim s (a ++ ns ++ b) p L) (hv : v.length ≤ 5000) (hm : Means (readB s.f) c v ns) :
    ∃ s', (shPg ks mb).freeChain s c = (s', 0) ∧ Good lim s' (a ++ b) p (L + ns.length) ∧ ∀ y ∈ a ++ b, readB s'.f y = readB s.f y := by
  obtain ⟨s', h1, h2, h3⟩ := freeAll_good ks mb ns h
  refine ⟨s', ?_, h2, h3⟩
  unfold Pg.freeChain
  rw [(walk_means ks mb h hv hm (fun y hy => by simp [hy])).2]
  dsimp only
  rw [if_neg (by decide)]
  exact h1
end Go.Proofs.YtonbipaajhokfaaGreatDoor
end
section
set_option linter.unusedVariables false
set_option linter.unusedSimpArgs false
namespace Go.Proofs.YtonbipaajhokfaaGreatDoor
open Go.RowKit Go.Proofs.YtonbipaajhokfaaGreatDoorW.PrintWords Go.Proofs.YtonbipaajhokfaaGreatDoorW.PrintLast Go.Proofs.YtonbipaajhokfaaGreatDoorW.PrintMore
theorem ShAt.in_ {ks mb : Nat} {w : World} {s : Sh} (h : ShAt ks mb w s) : ShIn ks mb w (ShF ks mb) s :=
  ⟨Or.inl rfl, Or.inr rfl, fun k hk => by rcases hk with e | e; rw [e]; exact h.lt; rw [e]; exact h.2.lt, h⟩
theorem shCell_calls (ks mb : Nat) (s : Sh) (v : List UInt8) (w : World) (h : ShAt ks mb w s) (hok : ShOk s) (hm : v.length ≤ 9223372036854775807) :
    Calls Tryz.prog 13 #[.iface 26 (.pointer (some ⟨ks, 0, none⟩)), .string (bs v)] w fun e w' => e = .returned (.tuple #[.agg #[.int .i64 ((shPg ks mb).cell s v).2.1.1, .string ((shPg ks mb).cell s v).2.1.2.1, .int .i64 ((shPg ks mb).cell s v).2.1.2.2], .int .i64 ((shPg ks mb).cell s v).2.2]) ∧
      ShAt ks mb w' ((shPg ks mb).cell s v).1 ∧ Fr (ShF ks mb) w w' :=
  (cell_calls (shPg ks mb) (ShF ks mb) s v w h.in_ hok hm).mono fun e w' hh => ⟨hh.1, by obtain ⟨F', h1, h2, h3⟩ := hh.2; exact ⟨h1.2.2.2, h3⟩⟩
theorem shValue_calls (ks mb : Nat) (s : Sh) (x0 : Int) (x1 : ByteArray) (x2 : Int) (w : World) (h : ShAt ks mb w s) (hok : ShOk s) :
    Calls Tryz.prog 9 #[.iface 26 (.pointer (some ⟨ks, 0, none⟩)), .agg #[.int .i64 x0, .string x1, .int .i64 x2]] w fun e w' => e = .returned (.tuple #[.string (bs ((shPg ks mb).walk s (x0, x1, x2)).2.1), .int .i64 ((shPg ks mb).walk s (x0, x1, x2)).2.2.2]) ∧
      ShAt ks mb w' ((shPg ks mb).walk s (x0, x1, x2)).1 ∧ Fr (ShF ks mb) w w' :=
  (value_calls (shPg ks mb) (ShF ks mb) s x0 x1 x2 w h.in_ hok).mono fun e w' hh => ⟨hh.1, by obtain ⟨F', h1, h2, h3⟩ := hh.2; exact ⟨h1.2.2.2, h3⟩⟩
/-- A row of ints that is none of a shelf's blocks. -/
def RowAt (ks mb B : Nat) (w : World) (v : Value) (l : List Int) : Prop := (Kd.int .i64).R 3 w 0 (fun k => k ≠ ks ∧ k ≠ mb ∧ B ≤ k) v l
theorem RowAt.fr {ks mb B : Nat} {w w' : World} {v : Value} {l : List Int} (h : RowAt ks mb B w v l) (hf : Fr (ShF ks mb) w w') : RowAt ks mb B w' v l :=
  Kd.R_step h (fun k ho hlt => hf.block k hlt (fun hh => by rcases hh with e | e; exact ho.1 e; exact ho.2.1 e))
theorem RowAt.below {ks mb B : Nat} {w w' : World} {v : Value} {l : List Int} (h : RowAt ks mb B w v l) (hb : Below w.heap.size w w') : RowAt ks mb B w' v l := Kd.R_below h hb
theorem shList_calls (ks mb : Nat) (s : Sh) (x0 : Int) (x1 : ByteArray) (x2 : Int) (w : World) (h : ShAt ks mb w s) (hok : ShOk s) :
    Calls Tryz.prog 10 #[.iface 26 (.pointer (some ⟨ks, 0, none⟩)), .agg #[.int .i64 x0, .string x1, .int .i64 x2]] w fun e w' => ∃ A c, e = .returned (.tuple #[.slice A ((shPg ks mb).walk s (x0, x1, x2)).2.2.1.length c, .int .i64 ((shPg ks mb).walk s (x0, x1, x2)).2.2.2]) ∧
      ShAt ks mb w' ((shPg ks mb).walk s (x0, x1, x2)).1 ∧ Fr (ShF ks mb) w w' ∧ RowAt ks mb w.heap.size w' (.slice A ((shPg ks mb).walk s (x0, x1, x2)).2.2.1.length c) ((shPg ks mb).walk s (x0, x1, x2)).2.2.1 :=
  (list_calls (shPg ks mb) (ShF ks mb) s x0 x1 x2 w h.in_ hok).mono fun e w' hh => by
    obtain ⟨vl, he, F', ⟨h1, h2, h3⟩, hr⟩ := hh
    obtain ⟨A, c, rfl⟩ := Kd.R_slice hr
    exact ⟨A, c, he, h1.2.2.2, h3, Kd.R_mono hr (fun k hk => ⟨fun e => hk.1 (e ▸ h1.1), fun e => hk.1 (e ▸ h1.2.1), hk.2⟩)⟩
theorem shFreeChain_calls (ks mb : Nat) (s : Sh) (x0 : Int) (x1 : ByteArray) (x2 : Int) (w : World) (h : ShAt ks mb w s) (hok : ShOk s) :
    Calls Tryz.prog 16 #[.iface 26 (.pointer (some ⟨ks, 0, none⟩)), .agg #[.int .i64 x0, .string x1, .int .i64 x2]] w fun e w' => e = .returned (.int .i64 ((shPg ks mb).freeChain s (x0, x1, x2)).2) ∧
      ShAt ks mb w' ((shPg ks mb).freeChain s (x0, x1, x2)).1 ∧ Fr (ShF ks mb) w w' :=
  (free_calls (shPg ks mb) (ShF ks mb) s x0 x1 x2 w h.in_ hok).mono fun e w' hh => ⟨hh.1, by obtain ⟨F', h1, h2, h3⟩ := hh.2; exact ⟨h1.2.2.2, h3⟩⟩
/-- A block of the caller's own beside a shelf. -/
structure Beside (ks mb : Nat) (w : World) (g : Nat) (o : Obj) : Prop where
  at_ : w.heap[g]? = some o
  n1 : g ≠ ks
  n2 : g ≠ mb
theorem Beside.fr {ks mb g : Nat} {w w' : World} {o : Obj} (h : Beside ks mb w g o) (hf : Fr (ShF ks mb) w w') : Beside ks mb w' g o :=
  ⟨hf.blk h.at_ (fun hh => by rcases hh with e | e; exact h.n1 e; exact h.n2 e), h.n1, h.n2⟩
theorem Beside.below {ks mb g : Nat} {w w' : World} {o : Obj} (h : Beside ks mb w g o) (hb : Below w.heap.size w w') : Beside ks mb w' g o :=
  ⟨blk_below h.at_ hb, h.n1, h.n2⟩
theorem Beside.new {ks mb : Nat} {w : World} {s : Sh} (h : ShAt ks mb w s) (o : Obj) : Beside ks mb (w.alloc o) w.heap.size o :=
  ⟨blk_new w o, fun e => by have := h.lt; omega, fun e => by have := h.2.lt; omega⟩
theorem Good.ok {lim p : Int} {s : Sh} {u : List Int} {L : Nat} (h : Good lim s u p L) (hf : FullM s.f) : ShOk s := by
  have hs := h.sum
  have hl := h.left
  obtain ⟨t, c, h1, h2, h3, -⟩ := h
  refine ⟨by omega, by omega, ?_, ?_, ?_, ?_, hf⟩ <;> rw [h2] <;> dsimp only <;> omega
section
variable {P : Program} {ops : Array Oper} {C : World → Prop} {Q : Act → Prop} {a : Act} {o : Oper} {rest : List Oper}
/-- The rules of a region that reads and makes memory alone, at an operation with a guard, too. -/
theorem q_valw (hw : Region.wanted o (yielded ops a.tmps) = true) {v : Value} {a' : Act} (h : ∀ w', C w' → (execOp a.eval o).run P w' = .ok (.value v) w') (ha : a.put o.dst v = a') (hk : wpQuiet P ops C Q rest a') : wpQuiet P ops C Q (o :: rest) a :=
  wpQuiet_step fun K hK => by rw [if_pos hw]; exact quiet_val v h (hK _ (by rw [ha]; exact hk))
theorem q_callw (hw : Region.wanted o (yielded ops a.tmps) = true) {f : FuncId} {args : Array Value} {v : Value} {a' : Act} (h : ∀ w', C w' → (execOp a.eval o).run P w' = .ok (.enter f args) w')
    (hc : ∀ w', C w' → Calls P f args w' (fun e w'' => e = .returned v ∧ C w'')) (ha : a.put o.dst v = a') (hk : wpQuiet P ops C Q rest a') : wpQuiet P ops C Q (o :: rest) a :=
  wpQuiet_step fun K hK => by rw [if_pos hw]; exact quiet_call f args v h hc (hK _ (by rw [ha]; exact hk))
end
theorem strOfNums_size (l : List Int) : (strOfNums l).size = l.length := by rw [strOfNums_bs, bs_size, List.length_map]
theorem long_l0 : ∀ (d k n : Nat) (xs : List Int) (i : Nat), xs.length = n → n = i + d → d < k → n ≤ 1000000 → ∃ r, PChainReads.cahierlaw11_long.l0 k n xs i = some r ∧ r.size = n := by
  intro d
  induction d with
  | zero =>
    intro k n xs i hx hn hk hb
    obtain ⟨k, rfl⟩ : ∃ m, k = m + 1 := ⟨k - 1, by omega⟩
    refine ⟨strOfNums xs, ?_, by rw [strOfNums_size, hx]⟩
    simp only [PChainReads.cahierlaw11_long.l0]
    rw [if_neg (by omega)]
  | succ d ih =>
    intro k n xs i hx hn hk hb
    obtain ⟨k, rfl⟩ : ∃ m, k = m + 1 := ⟨k - 1, by omega⟩
    simp only [PChainReads.cahierlaw11_long.l0]
    rw [if_pos (by omega), if_pos (by omega), if_pos (by omega), show wrap64 ((i : Int) + 1) = ((i + 1 : Nat) : Int) by unfold wrap64; omega]
    exact ih k n _ (i + 1) (by rw [List.length_set, hx]) (by omega) (by omega) hb
theorem long_f (n : Nat) (h : n ≤ 1000000) : ∃ r : List UInt8, PChainReads.cahierlaw11_long.f (n + 1) n = some (bs r) ∧ r.length = n := by
  obtain ⟨r, h1, h2⟩ := long_l0 n (n + 1) n (List.replicate n 0) 0 (by simp) (by omega) (by omega) h
  refine ⟨r.data.toList, ?_, by rw [← h2]; exact data_length r⟩
  rw [bs_of]
  unfold PChainReads.cahierlaw11_long.f
  rw [if_pos (by omega), if_pos (by omega), Int.toNat_natCast]
  exact h1
theorem long_calls {n : Nat} {r : List UInt8} (h : PChainReads.cahierlaw11_long.f (n + 1) n = some (bs r)) (w : World) : Calls Tryz.prog 24 #[.int .i64 n] w fun e w' => e = .returned (.string (bs r)) ∧ Below w.heap.size w w' :=
  PChainReads.cahierlaw11_long.calls (n + 1) n (bs r) w h
end Go.Proofs.YtonbipaajhokfaaGreatDoor
end
section
set_option linter.unusedVariables false
set_option linter.unusedSimpArgs false
namespace Go.Proofs.YtonbipaajhokfaaGreatDoor
open Go.RowKit Go.Proofs.YtonbipaajhokfaaGreatDoorW.PrintWords Go.Proofs.YtonbipaajhokfaaGreatDoorW.PrintLast Go.Proofs.YtonbipaajhokfaaGreatDoorW.PrintMore
def shortL : List UInt8 := [115, 104, 111, 114, 116]
theorem awake11_plain (ks mb : Nat) {v z : List UInt8} (hv : v.length = 228) (hz : z.length = 5001) : ∃ (s1 s2 : Sh) (n m : Int),
    (shPg ks mb).cell (Sh.start 20) shortL = (Sh.start 20, (5, bs shortL, 0), 0) ∧ (shPg ks mb).cell (Sh.start 20) v = (s1, (228, ⟨#[]⟩, n), 0) ∧ 1 ≤ n ∧
    (shPg ks mb).walk s1 (228, ⟨#[]⟩, n) = (s1, v, [n, m], 0) ∧ (shPg ks mb).cell s1 z = (s1, (0, ⟨#[]⟩, 0), 47) ∧ s1.hd.pages = 3 ∧
    (shPg ks mb).freeChain s1 (228, ⟨#[]⟩, n) = (s2, 0) ∧ s2.hd.spare = 2 ∧ (shPg ks mb).walk s2 (9, ⟨#[]⟩, 0) = (s2, [], [], 1) ∧ ShOk (Sh.start 20) ∧ ShOk s1 ∧ ShOk s2 := by
  have g0 : Good 20 (Sh.start 20) [] 1 0 := Good.start (by decide) (by decide)
  have o0 : ShOk (Sh.start 20) := ShOk.start (by decide) (by decide)
  obtain ⟨s1, c, ns, p, L, a1, a2, a3, a4, a5, a6⟩ := cell_good ks mb g0 (v := v) (by omega) (by rw [hv]; decide)
  have hm := a3
  unfold Means at hm
  rw [if_neg (by omega), hv] at hm
  obtain ⟨hc, hlen, hlaid⟩ := hm
  rw [show parts 228 = 2 from rfl] at hlen
  match ns, hlen with
  | [n, m], _ =>
    have hw := (walk_means ks mb a2 (c := c) (by omega) a3 (fun y hy => List.mem_append_right _ hy)).2
    obtain ⟨s2, b1, b2, b3⟩ := freeChain_good ks mb (a := []) (b := []) (ns := [n, m]) (by simpa using a2) (v := v) (c := c) (by omega) a3
    have e1 := a2.sum
    have e2 := a2.pages
    have e3 := b2.pages
    have e4 := a2.nodup.2 n (by simp)
    have o1 := (shPg ks mb).ok_cell v o0
    rw [a1] at o1
    have o2 := (shPg ks mb).ok_freeChain c o1
    rw [b1] at o2
    obtain ⟨t1, h1⟩ := e2
    obtain ⟨t2, h2⟩ := e3
    subst hc
    refine ⟨s1, s2, n, m, ?_, a1, e4.1, hw, ?_, ?_, b1, ?_, ?_, o0, o1, o2⟩
    · unfold Pg.cell; rw [if_neg (by decide), if_pos (by decide)]; rfl
    · unfold Pg.cell; rw [if_pos (by omega)]
    · rw [h1]; dsimp only; simp at e1; omega
    · rw [h2]; dsimp only; have : L = 0 := by omega
      subst this; rfl
    · unfold Pg.walk; rw [if_pos (by decide)]
theorem head_pages (a c d e f : Value) (b' : Int) (W : World) : (Instr.field 48 (.agg #[a, .int .i64 b', c, d, e, f]) 1).run Tryz.prog W = .ok (.int .i64 b') W := by kernel_rfl
theorem head_spare (a b c e f : Value) (d' : Int) (W : World) : (Instr.field 48 (.agg #[a, b, c, .int .i64 d', e, f]) 3).run Tryz.prog W = .ok (.int .i64 d') W := by kernel_rfl
set_option maxHeartbeats 4000000 in
set_option maxRecDepth 100000 in
theorem awake11_calls (w : World) : Calls Tryz.prog 7 #[] w fun e w' => e = .returned (.bool true) ∧ Below w.heap.size w w' := by
  have hu := Tryz.underlying24
  have hu2 := Tryz.underlying48
  obtain ⟨v, hv, hvl⟩ := long_f 228 (by decide)
  obtain ⟨z, hz, hzl⟩ := long_f 5001 (by decide)
  have HV := Aside0.mk (fun W => long_calls hv W)
  have HZ := Aside0.mk (fun W => long_calls hz W)
  have hvne : v.length ≤ 1000 := by omega
  have HVL := Aside0.mk hvl
  have HZL := Aside0.mk hzl
  clear hv hz hvl hzl
  go_enter Tryz.func7, Tryz.ntmps7
  go_wp2_with fail
  refine (shelfNew_calls 20 w (by decide) (by decide)).mono ?_
  rintro e w0 ⟨ks, mb, rfl, hS, hk1, hk2, hB⟩
  have HO := Aside0.mk (show Own ks mb w.heap.size w w0 (Sh.start 20) from ⟨hS, hk1, hk2, hB, hB.size⟩)
  obtain ⟨s1, s2, n, m, p1, p2, p3, p4, p5, p6, p7, p8, p9, o0, o1, o2⟩ := awake11_plain ks mb HVL.out HZL.out
  clear hS hk1 hk2 hB
  have q1 := fun W hW => shCell_calls ks mb (Sh.start 20) shortL W hW o0 (by decide)
  have q2 := fun W hW => shCell_calls ks mb (Sh.start 20) v W hW o0 (by omega)
  have q3 := fun W hW => shValue_calls ks mb s1 228 ⟨#[]⟩ n W hW o1
  have q4 := fun W hW => shList_calls ks mb s1 228 ⟨#[]⟩ n W hW o1
  have q5 := fun W hW => shCell_calls ks mb s1 z W hW o1 (by have := HZL.out; omega)
  have q6 := fun W hW => shHead_calls ks mb s1 W hW
  have q7 := fun W hW => shFreeChain_calls ks mb s1 228 ⟨#[]⟩ n W hW o1
  have q8 := fun W hW => shValue_calls ks mb s2 9 ⟨#[]⟩ 0 W hW o2
  have q9 := fun W hW => shHead_calls ks mb s2 W hW
  rw [p1] at q1
  rw [p2] at q2
  rw [p4] at q3 q4
  rw [p5] at q5
  rw [p7] at q7
  rw [p9] at q8
  unfold Hd.v at q6 q9
  rw [p6] at q6
  rw [p8] at q9
  have Q1 := Aside0.mk q1
  have Q2 := Aside0.mk q2
  have Q3 := Aside0.mk q3
  have Q4 := Aside0.mk q4
  have Q5 := Aside0.mk q5
  have Q6 := Aside0.mk q6
  have Q7 := Aside0.mk q7
  have Q8 := Aside0.mk q8
  have Q9 := Aside0.mk q9
  have tn : decide (1 ≤ n) = true := decide_eq_true p3
  clear q1 q2 q3 q4 q5 q6 q7 q8 q9 p1 p2 p3 p4 p5 p6 p7 p8 p9 o0 o1 o2
  go_wp2_with fail
  refine (Q1.out _ HO.out.at_).mono ?_
  rintro e w1 ⟨rfl, hs, hf⟩
  replace HO := Aside0.mk (HO.out.fr hs hf)
  clear hs hf Q1
  go_wp2_with fail
  refine (HV.out _).mono ?_
  rintro e w2 ⟨rfl, hb⟩
  have HA := Aside0.mk ((Beside.new HO.out.at_ (.cells #[.int .i64 5, .string (bs shortL), .int .i64 0] 24)).below hb)
  replace HO := Aside0.mk ((HO.out.below (below_alloc (Below.refl _ _) _)).below hb)
  obtain ⟨ga, hga⟩ : ∃ ga, ga = w1.heap.size := ⟨_, rfl⟩
  rw [← hga] at HA ⊢
  clear hb hga
  go_wp2_with fail
  refine (Q2.out _ HO.out.at_).mono ?_
  rintro e w3 ⟨rfl, hs, hf⟩
  replace HO := Aside0.mk (HO.out.fr hs hf)
  replace HA := Aside0.mk (HA.out.fr hf)
  clear hs hf Q2
  go_wp2_with fail
  have HB := Aside0.mk (Beside.new HO.out.at_ (.cells #[.int .i64 228, .string ⟨#[]⟩, .int .i64 n] 24))
  replace HA := Aside0.mk (HA.out.below (below_alloc (Below.refl _ _) (.cells #[.int .i64 228, .string ⟨#[]⟩, .int .i64 n] 24)))
  replace HO := Aside0.mk (HO.out.below (below_alloc (Below.refl _ _) (.cells #[.int .i64 228, .string ⟨#[]⟩, .int .i64 n] 24)))
  refine (Q3.out _ HO.out.at_).mono ?_
  rintro e w4 ⟨rfl, hs, hf⟩
  replace HO := Aside0.mk (HO.out.fr hs hf)
  replace HA := Aside0.mk (HA.out.fr hf)
  replace HB := Aside0.mk (HB.out.fr hf)
  obtain ⟨gb, hgb⟩ : ∃ gb, gb = w3.heap.size := ⟨_, rfl⟩
  rw [← hgb] at HB ⊢
  clear hs hf hgb Q3
  have cgb0 : w4.cell? ⟨gb, 0, none⟩ = some (.int .i64 228) := (blk_cell HB.out.at_ 0).trans rfl
  have cgb1 : w4.cell? ⟨gb, 1, none⟩ = some (.string ⟨#[]⟩) := (blk_cell HB.out.at_ 1).trans rfl
  have cgb2 : w4.cell? ⟨gb, 2, none⟩ = some (.int .i64 n) := (blk_cell HB.out.at_ 2).trans rfl
  go_wp2_with fail
  clear cgb0 cgb1 cgb2
  refine (Q4.out _ HO.out.at_).mono ?_
  rintro e w5 ⟨A, c, rfl, hs, hf, hrow⟩
  have HRow := Aside0.mk hrow
  replace HO := Aside0.mk (HO.out.fr hs hf)
  replace HA := Aside0.mk (HA.out.fr hf)
  replace HB := Aside0.mk (HB.out.fr hf)
  clear hs hf hrow Q4
  go_wp2_with fail
  refine (HZ.out _).mono ?_
  rintro e w6 ⟨rfl, hb⟩
  replace HO := Aside0.mk (HO.out.below hb)
  replace HA := Aside0.mk (HA.out.below hb)
  replace HB := Aside0.mk (HB.out.below hb)
  replace HRow := Aside0.mk (HRow.out.below hb)
  clear hb HZ
  go_wp2_with fail
  refine (Q5.out _ HO.out.at_).mono ?_
  rintro e w7 ⟨rfl, hs, hf⟩
  replace HO := Aside0.mk (HO.out.fr hs hf)
  replace HA := Aside0.mk (HA.out.fr hf)
  replace HB := Aside0.mk (HB.out.fr hf)
  replace HRow := Aside0.mk (HRow.out.fr hf)
  clear hs hf Q5
  go_wp2_with fail
  have hb := below_alloc (Below.refl w7.heap.size w7) (.cells #[.int .i64 0, .string ⟨#[]⟩, .int .i64 0] 24)
  replace HO := Aside0.mk (HO.out.below hb)
  replace HA := Aside0.mk (HA.out.below hb)
  replace HB := Aside0.mk (HB.out.below hb)
  replace HRow := Aside0.mk (HRow.out.below hb)
  clear hb
  refine (Q6.out _ HO.out.at_).mono ?_
  rintro e w8 ⟨rfl, hb⟩
  replace HO := Aside0.mk (HO.out.below hb)
  replace HA := Aside0.mk (HA.out.below hb)
  replace HB := Aside0.mk (HB.out.below hb)
  replace HRow := Aside0.mk (HRow.out.below hb)
  clear hb Q6
  have hfd := head_pages
  have cgb0 : w8.cell? ⟨gb, 0, none⟩ = some (.int .i64 228) := (blk_cell HB.out.at_ 0).trans rfl
  have cgb1 : w8.cell? ⟨gb, 1, none⟩ = some (.string ⟨#[]⟩) := (blk_cell HB.out.at_ 1).trans rfl
  have cgb2 : w8.cell? ⟨gb, 2, none⟩ = some (.int .i64 n) := (blk_cell HB.out.at_ 2).trans rfl
  go_wp2_with fail
  clear cgb0 cgb1 cgb2
  refine (Q7.out _ HO.out.at_).mono ?_
  rintro e w9 ⟨rfl, hs, hf⟩
  replace HO := Aside0.mk (HO.out.fr hs hf)
  replace HA := Aside0.mk (HA.out.fr hf)
  replace HB := Aside0.mk (HB.out.fr hf)
  replace HRow := Aside0.mk (HRow.out.fr hf)
  clear hs hf Q7
  go_wp2_with fail
  refine (Q8.out _ HO.out.at_).mono ?_
  rintro e w10 ⟨rfl, hs, hf⟩
  replace HO := Aside0.mk (HO.out.fr hs hf)
  replace HA := Aside0.mk (HA.out.fr hf)
  replace HB := Aside0.mk (HB.out.fr hf)
  replace HRow := Aside0.mk (HRow.out.fr hf)
  clear hs hf Q8
  obtain ⟨ad, hA, hx⟩ := Kd.at_int (Kd.R_reads' HRow.out).2.2 0 (by decide) (by simp)
  subst hA
  have hx0 : w10.cell? ad = some (.int .i64 n) := by simpa [rd, Addr.add] using hx
  have hadl := Kd.R_lt HRow.out ad.block rfl
  have HS : Aside0 (∀ w', Below w10.heap.size w10 w' → w'.cell? ⟨ga, 0, none⟩ = some (.int .i64 5) ∧ w'.cell? ⟨ga, 1, none⟩ = some (.string (bs shortL)) ∧ w'.cell? ⟨ga, 2, none⟩ = some (.int .i64 0) ∧ w'.cell? ⟨gb, 0, none⟩ = some (.int .i64 228) ∧ w'.cell? ⟨gb, 1, none⟩ = some (.string ⟨#[]⟩) ∧ w'.cell? ⟨gb, 2, none⟩ = some (.int .i64 n) ∧ w'.cell? ad = some (.int .i64 n)) :=
    ⟨fun w' hb => ⟨(blk_cell (HA.out.below hb).at_ 0).trans rfl, (blk_cell (HA.out.below hb).at_ 1).trans rfl, (blk_cell (HA.out.below hb).at_ 2).trans rfl, (blk_cell (HB.out.below hb).at_ 0).trans rfl, (blk_cell (HB.out.below hb).at_ 1).trans rfl, (blk_cell (HB.out.below hb).at_ 2).trans rfl, (hb.cell hadl).trans hx0⟩⟩
  have hfe := head_spare
  have hsh : (bs shortL).toList = [115, 104, 111, 114, 116] := by rw [ByteArray.toList_eq]; rfl
  clear hx hx0 hadl HA HB
  go_wp2_with fail
  refine region_below w10.heap.size (Nat.le_refl _) (by kernel_rfl) (by kernel_rfl) ?_
  iterate 23 (
    refine q_valw (by rfl) (v := ?_) (a' := ?_) ?_ ?_ ?_
    rotate_left
    rotate_left
    · intro w' hw'
      obtain ⟨e0, e1, e2, e3, e4, e5, e6⟩ := HS.out w' hw'
      go_simp
      with_reducible rfl
    · simp only [Act.put, List.setIfInBounds_toArray, List.set_cons_zero, List.set_cons_succ]
      rfl
    )
  refine q_callw (by rfl) (v := .string (bs v)) (a' := ?_) (f := 24) (args := #[.int .i64 228]) ?_ ?_ ?_ ?_
  rotate_left
  · intro w' hw'
    go_simp
  · intro w' hw'
    exact (HV.out w').mono fun _ _ hh => ⟨hh.1, below_then hw' hw'.size hh.2⟩
  · simp only [Act.put, List.setIfInBounds_toArray, List.set_cons_zero, List.set_cons_succ]
    rfl
  iterate 37 (
    refine q_valw (by rfl) (v := ?_) (a' := ?_) ?_ ?_ ?_
    rotate_left
    rotate_left
    · intro w' hw'
      obtain ⟨e0, e1, e2, e3, e4, e5, e6⟩ := HS.out w' hw'
      go_simp
      with_reducible rfl
    · simp only [Act.put, List.setIfInBounds_toArray, List.set_cons_zero, List.set_cons_succ]
      rfl
    )
  refine q_callw (by rfl) (v := .agg #[.int .i64 s2.hd.mode, .int .i64 s2.hd.pages, .int .i64 s2.hd.trunk, .int .i64 2, .int .i64 s2.hd.root, .int .u64 s2.hd.change]) (a' := ?_) (f := 18) (args := #[.pointer (some ⟨ks, 0, none⟩)]) ?_ ?_ ?_ ?_
  rotate_left
  · intro w' hw'
    go_simp
  · intro w' hw'
    exact (Q9.out w' (HO.out.below hw').at_).mono fun _ _ hh => ⟨hh.1, below_then hw' hw'.size hh.2⟩
  · simp only [Act.put, List.setIfInBounds_toArray, List.set_cons_zero, List.set_cons_succ]
    rfl
  iterate 8 (
    refine q_valw (by rfl) (v := ?_) (a' := ?_) ?_ ?_ ?_
    rotate_left
    rotate_left
    · intro w' hw'
      obtain ⟨e0, e1, e2, e3, e4, e5, e6⟩ := HS.out w' hw'
      go_simp
      with_reducible rfl
    · simp only [Act.put, List.setIfInBounds_toArray, List.set_cons_zero, List.set_cons_succ]
      rfl
    )
  refine wpQuiet_nil ?_
  intro w' hw'
  replace HO := Aside0.mk (HO.out.below hw')
  clear HS hw' Q9 HV
  go_wp2
  go_ret
  exact ⟨rfl, HO.out.base⟩
end Go.Proofs.YtonbipaajhokfaaGreatDoor
end
section
set_option linter.unusedVariables false
set_option linter.unusedSimpArgs false
namespace Go.Proofs.YtonbipaajhokfaaGreatDoor
open Go.RowKit Go.Proofs.YtonbipaajhokfaaGreatDoorW.PrintWords Go.Proofs.YtonbipaajhokfaaGreatDoorW.PrintLast Go.Proofs.YtonbipaajhokfaaGreatDoorW.PrintMore
/-- The same shelf, so many calls left. -/
def Sh.arm (s : Sh) (l : Int) : Sh := ⟨s.limit, s.hd, s.f, l⟩
theorem Sh.arm_self {s : Sh} {l : Int} (h : s.left = l) : s.arm l = s := by subst h; rfl
theorem ShOk.arm {s : Sh} (h : ShOk s) {l : Int} (hl : l ≤ 4096) : ShOk (s.arm l) := ⟨h.lim, hl, h.p1, h.p2, h.s0, h.s1, h.full⟩
theorem beg_arm {s : Sh} {l : Int} (hl : l ≠ 0) (h0 : s.left ≠ 0) (n : Int) : (s.arm l).beg n = s.beg n := by
  unfold Sh.beg Sh.arm
  dsimp only
  rw [if_neg hl, if_neg h0]
theorem new_arm0 (mb : Nat) (s : Sh) : (s.arm 0).new mb = (s.arm 0, 0, 11) := by
  unfold Sh.new
  rw [if_pos (show (s.arm 0).left = 0 from rfl), Sh.dec_le (by show (0 : Int) ≤ 0; decide)]
theorem new_arm (mb : Nat) {s s' : Sh} {n l : Int} (hl : 0 < l) (h0 : s.left = -1) (h : s.new mb = (s', n, 0)) : (s.arm l).new mb = (s'.arm (l - 1), n, 0) := by
  unfold Sh.new at h ⊢
  rw [if_neg (by rw [h0]; decide)] at h
  rw [if_neg (by show ¬ l = 0; omega)]
  have hn : nl (s.arm l).left = l - 1 := by show nl l = l - 1; unfold nl; rw [if_pos hl]
  show (if s.hd.spare = 0 ∧ s.limit ≤ s.hd.pages then _ else _) = _
  by_cases c1 : s.hd.spare = 0 ∧ s.limit ≤ s.hd.pages
  · rw [if_pos c1] at h; cases h
  · rw [if_neg c1] at h ⊢
    show (if ((mapShop mb).take s.f s.hd).2.2.2 ≠ 0 then _ else _) = _
    by_cases c2 : ((mapShop mb).take s.f s.hd).2.2.2 ≠ 0
    · rw [if_pos c2] at h
      injection h with h1 h2
      injection h2 with h2 h3
      exact absurd h3 c2
    · rw [if_neg c2] at h ⊢
      injection h with h1 h2
      injection h2 with h2 h3
      subst h1 h2
      rw [hn]
      rfl
theorem put_arm0 (s : Sh) (n : Int) (d : ByteArray) : (s.arm 0).put n d = (s.arm 0, 11) := by
  have hb : (s.arm 0).beg n = 11 := by unfold Sh.beg; rw [if_pos (show (s.arm 0).left = 0 from rfl)]
  unfold Sh.put
  rw [hb, if_pos (by decide), Sh.dec_le (by show (0 : Int) ≤ 0; decide)]
theorem put_arm {s s' : Sh} {n l : Int} {d : ByteArray} (hl : 0 < l) (h0 : s.left = -1) (h : s.put n d = (s', 0)) : (s.arm l).put n d = (s'.arm (l - 1), 0) := by
  have hb := beg_arm (s := s) (l := l) (by omega) (by omega) n
  have hn : nl (s.arm l).left = l - 1 := by show nl l = l - 1; unfold nl; rw [if_pos hl]
  unfold Sh.put at h ⊢
  rw [hb]
  by_cases c1 : s.beg n ≠ 0
  · rw [if_pos c1] at h; injection h with h1 h2; exact absurd h2 c1
  · rw [if_neg c1] at h ⊢
    by_cases c2 : d.size ≠ 232
    · rw [if_pos c2] at h; cases h
    · rw [if_neg c2] at h ⊢
      injection h with h1 h2
      subst h1
      rw [hn]
      rfl
theorem get_arm0 (s : Sh) (n : Int) : ((s.arm 0).dec, ((s.arm 0).get n).1, ((s.arm 0).get n).2) = (s.arm 0, (⟨#[]⟩ : ByteArray), 11) := by
  have hb : (s.arm 0).beg n = 11 := by unfold Sh.beg; rw [if_pos (show (s.arm 0).left = 0 from rfl)]
  unfold Sh.get
  rw [hb, if_pos (by decide), Sh.dec_le (by show (0 : Int) ≤ 0; decide)]
theorem get_arm {s : Sh} {n l : Int} {d : ByteArray} (hl : 0 < l) (h0 : s.left = -1) (h : (s.dec, (s.get n).1, (s.get n).2) = (s, d, 0)) : ((s.arm l).dec, ((s.arm l).get n).1, ((s.arm l).get n).2) = (s.arm (l - 1), d, 0) := by
  have hb := beg_arm (s := s) (l := l) (by omega) (by omega) n
  have hd : (s.arm l).dec = s.arm (l - 1) := by unfold Sh.dec; rw [show nl (s.arm l).left = l - 1 by show nl l = l - 1; unfold nl; rw [if_pos hl]]; rfl
  have hg : (s.arm l).get n = s.get n := by unfold Sh.get; rw [hb]; rfl
  rw [hd, hg]
  injection h with h1 h2
  rw [h2]
/-- Laying on an armed shelf: as on one that is not, or all fails. -/
theorem lay_arm (ks mb : Nat) {lim : Int} {v : List UInt8} (hv : v.length ≤ 5000) :
    ∀ (k : Nat) {p : Int} {s : Sh} {u : List Int} {L : Nat} (next l : Int), Good lim s u p L → (u.length : Int) + k < lim → 0 ≤ l →
      (∃ s', (shPg ks mb).lay v k (s.arm l) next = (s', 0, 11)) ∨ ∃ s' m l', (shPg ks mb).lay v k s next = (s', m, 0) ∧ (shPg ks mb).lay v k (s.arm l) next = (s'.arm l', m, 0) ∧ 0 ≤ l' ∧ l' ≤ l := by
  intro k
  induction k with
  | zero => intro p s u L next l h hr hl; exact Or.inr ⟨s, next, l, rfl, rfl, hl, Int.le_refl _⟩
  | succ k ih =>
    intro p s u L next l h hr hl
    by_cases h0 : l = 0
    · subst h0
      left
      exact ⟨_, lay_new (P := shPg ks mb) (n1 := 0) (new_arm0 mb s).symm (by decide)⟩
    · obtain ⟨s1, n, p1, L1, a1, a2, a3, a4, a5, a6, a7⟩ := h.newk mb (by omega)
      have b1 := new_arm mb (l := l) (by omega) h.left a1
      obtain ⟨s2, c1, c2, c3, c4⟩ := a2.putk mb (n := n) (by simp) (d := bs (partL ((v.drop (k * 227)).take 227) next)) (by rw [bs_size]; exact partL_length (by rw [List.length_take]; omega) _)
      by_cases h1 : l = 1
      · subst h1
        left
        have d1 := put_arm0 s1 n (bs (partL ((v.drop (k * 227)).take 227) next))
        exact ⟨_, lay_put (P := shPg ks mb) b1.symm rfl rfl d1.symm (by decide)⟩
      · have d1 := put_arm (l := l - 1) (by omega) a2.left c1
        have e1 := lay_step (P := shPg ks mb) (k := k) a1.symm rfl rfl c1.symm rfl
        have e2 := lay_step (P := shPg ks mb) (k := k) b1.symm rfl rfl d1.symm rfl
        rw [e1, e2]
        rcases ih n (l - 1 - 1) c2 (by simp at hr ⊢; omega) (by omega) with ⟨s', f1⟩ | ⟨s', m, l', f1, f2, f3, f4⟩
        · exact Or.inl ⟨s', f1⟩
        · exact Or.inr ⟨s', m, l', f1, f2, f3, by omega⟩
theorem cell_arm (ks mb : Nat) {lim p : Int} {s : Sh} {u : List Int} {L : Nat} (h : Good lim s u p L) {v : List UInt8} (hv : v.length ≤ 5000) (hr : (u.length : Int) + partsOf v.length < lim) {l : Int} (hl : 0 ≤ l) :
    (40 < v.length ∧ ∃ s', (shPg ks mb).cell (s.arm l) v = (s', (0, ⟨#[]⟩, 0), 11)) ∨ ∃ s' c l', (shPg ks mb).cell s v = (s', c, 0) ∧ (shPg ks mb).cell (s.arm l) v = (s'.arm l', c, 0) := by
  unfold partsOf at hr
  by_cases h40 : v.length ≤ 40
  · right
    refine ⟨s, ((v.length : Int), bs v, 0), l, ?_, ?_⟩ <;> (unfold Pg.cell; rw [if_neg (by omega), if_pos h40])
  · rw [if_neg h40] at hr
    rcases lay_arm ks mb hv (parts v.length) 0 l h (by omega) hl with ⟨s', f1⟩ | ⟨s', m, l', f1, f2, f3, f4⟩
    · exact Or.inl ⟨by omega, s', cell_err (by omega) hv f1 (by decide)⟩
    · exact Or.inr ⟨s', _, l', cell_ok (by omega) hv f1, cell_ok (by omega) hv f2⟩
theorem follow_arm (ks mb : Nat) {s : Sh} (h0 : s.left = -1) : ∀ (k : Nat) (n : Int) (left : Nat) (out o : List UInt8) (l m : List Int) (x : Int), 0 ≤ x → (shPg ks mb).follow k s n left out l = (s, o, m, 0) →
    (∃ s', (shPg ks mb).follow k (s.arm x) n left out l = (s', [], [], 11)) ∨ ∃ x', (shPg ks mb).follow k (s.arm x) n left out l = (s.arm x', o, m, 0) := by
  intro k
  induction k with
  | zero =>
    intro n left out o l m x hx h
    right
    injection h with h1 h2
    injection h2 with h2 h3
    injection h3 with h3 h4
    subst h2 h3
    exact ⟨x, rfl⟩
  | succ k ih =>
    intro n left out o l m x hx h
    by_cases hx0 : x = 0
    · subst hx0
      exact Or.inl ⟨_, follow_err (P := shPg ks mb) (get_arm0 s n).symm (by decide)⟩
    · have hd : s.dec = s := Sh.dec_le (by omega)
      by_cases he : (s.get n).2 = 0
      · obtain ⟨d, hdd⟩ : ∃ d, d = (s.get n).1 := ⟨_, rfl⟩
        have hg : (s.dec, (s.get n).1, (s.get n).2) = (s, bs d.data.toList, 0) := by rw [hd, he, bs_of, hdd]
        have hga := get_arm (l := x) (by omega) h0 hg
        by_cases hp : pageOk d.data.toList left = true
        · rw [follow_step (P := shPg ks mb) hg.symm rfl hp] at h
          rw [follow_step (P := shPg ks mb) hga.symm rfl hp]
          exact ih _ _ _ _ _ _ (x - 1) (by omega) h
        · rw [follow_bad (P := shPg ks mb) hg.symm rfl (by simpa using hp)] at h
          injection h with h1 h2
          injection h2 with h2 h3
          injection h3 with h3 h4
          cases h4
      · rw [follow_err (P := shPg ks mb) (s := s) (s1 := s.dec) (d := (s.get n).1) (e1 := (s.get n).2) rfl he] at h
        injection h with h1 h2
        injection h2 with h2 h3
        injection h3 with h3 h4
        exact absurd h4 he
theorem walk_arm (ks mb : Nat) {s : Sh} (h0 : s.left = -1) {c : Cel} {v : List UInt8} {ns : List Int} (h : (shPg ks mb).walk s c = (s, v, ns, 0)) {x : Int} (hx : 0 ≤ x) (hns : c.2.2 ≠ 0 → ns ≠ []) :
    (ns ≠ [] ∧ ∃ s', (shPg ks mb).walk (s.arm x) c = (s', [], [], 11)) ∨ ∃ x', (shPg ks mb).walk (s.arm x) c = (s.arm x', v, ns, 0) := by
  unfold Pg.walk at h ⊢
  split at h
  · injection h with h1 h2
    injection h2 with h2 h3
    injection h3 with h3 h4
    cases h4
  · rename_i hg
    rw [if_neg hg]
    split at h
    · rename_i hp
      rw [if_pos hp]
      injection h with h1 h2
      exact Or.inr ⟨x, by rw [h2]⟩
    · rename_i hp
      rw [if_neg hp]
      rcases follow_arm ks mb h0 _ _ _ _ _ _ _ x hx h with f | f
      · exact Or.inl ⟨hns hp, f⟩
      · exact Or.inr f
/-- Without room for all parts. -/
theorem lay_room (ks mb : Nat) {lim : Int} {v : List UInt8} (hv : v.length ≤ 5000) :
    ∀ (k : Nat) {p : Int} {s : Sh} {u : List Int} {L : Nat} (next : Int), Good lim s u p L → (u.length : Int) + 1 ≤ lim → lim ≤ (u.length : Int) + k → ∃ s', (shPg ks mb).lay v k s next = (s', 0, 22) := by
  intro k
  induction k with
  | zero => intro p s u L next h h1 h2; omega
  | succ k ih =>
    intro p s u L next h h1 h2
    by_cases he : (u.length : Int) + 1 = lim
    · exact ⟨_, lay_new (P := shPg ks mb) (n1 := 0) (h.room mb he).symm (by decide)⟩
    · obtain ⟨s1, n, p1, L1, a1, a2, a3, a4, a5, a6, a7⟩ := h.newk mb (by omega)
      obtain ⟨s2, c1, c2, c3, c4⟩ := a2.putk mb (n := n) (by simp) (d := bs (partL ((v.drop (k * 227)).take 227) next)) (by rw [bs_size]; exact partL_length (by rw [List.length_take]; omega) _)
      rw [lay_step (P := shPg ks mb) (k := k) a1.symm rfl rfl c1.symm rfl]
      exact ih n c2 (by simp; omega) (by simp; omega)
set_option maxHeartbeats 1000000 in
set_option maxRecDepth 100000 in
theorem shelfNew_any (lim : Int) (w : World) :
    Calls Tryz.prog 14 #[.int .i64 lim] w fun e w' => ∃ ks mb, e = .returned (.pointer (some ⟨ks, 0, none⟩)) ∧ ShAt ks mb w' (Sh.start (min (max lim 1) 4096)) ∧ w.heap.size ≤ ks ∧ w.heap.size ≤ mb ∧ Below w.heap.size w w' := by
  have hmm := @run_makeMap Tryz.prog
  obtain ⟨m, hm⟩ : ∃ m, m = min (max lim 1) 4096 := ⟨_, rfl⟩
  have hm2 := hm.symm
  rw [hm2]
  clear hm
  go_enter Tryz.func14, Tryz.ntmps14
  go_wp2_with (go_at_call 32; refine (fresh46_calls _).mono ?_; rintro e w1 ⟨rfl, hb1⟩)
  go_ret
  refine ⟨w1.heap.size + 1, w1.heap.size, rfl, ⟨?_, ?_⟩, Nat.le_trans hb1.size (by omega), hb1.size, ?_⟩
  · have := blk_new (w1.alloc (.map #[] 0)) (.cells #[.int .i64 m, .int .i64 1, .int .i64 1, .int .i64 0, .int .i64 0, .int .i64 0, .int .u64 0, .map (some w1.heap.size), .int .i64 (-1)] 72)
    rw [World.size_alloc] at this
    exact this
  · refine (MapAt.new w1).keep ?_
    exact (below_alloc (Below.refl (w1.alloc (.map #[] 0)).heap.size (w1.alloc (.map #[] 0))) _).block w1.heap.size (by simp)
  · exact (hb1.trans ((below_alloc (below_alloc (Below.refl w1.heap.size w1) _) _).mono hb1.size))
end Go.Proofs.YtonbipaajhokfaaGreatDoor
end
section
set_option linter.unusedVariables false
set_option linter.unusedSimpArgs false
namespace Go.Proofs.YtonbipaajhokfaaGreatDoor
open Go.RowKit Go.Proofs.YtonbipaajhokfaaGreatDoorW.PrintWords Go.Proofs.YtonbipaajhokfaaGreatDoorW.PrintLast Go.Proofs.YtonbipaajhokfaaGreatDoorW.PrintMore
/-- What ChainFails meets on its first shelf. -/
theorem fails_plain (ks mb : Nat) {v : List UInt8} (hv : v.length ≤ 5000) {x : Int} (hx0 : 0 ≤ x) (hx1 : x ≤ 100) :
    (40 < v.length ∧ ∃ s', (shPg ks mb).cell ((Sh.start 100).arm x) v = (s', (0, ⟨#[]⟩, 0), 11)) ∨
    ∃ s1 c ns l', (shPg ks mb).cell ((Sh.start 100).arm x) v = (s1.arm l', c, 0) ∧ s1.arm (-1) = s1 ∧ (shPg ks mb).walk s1 c = (s1, v, ns, 0) ∧ ShOk s1 ∧ ns.length = partsOf v.length ∧
      ((ns ≠ [] ∧ ∃ s', (shPg ks mb).walk (s1.arm x) c = (s', [], [], 11)) ∨ ∃ x', (shPg ks mb).walk (s1.arm x) c = (s1.arm x', v, ns, 0)) := by
  have g0 : Good 100 (Sh.start 100) [] 1 0 := Good.start (by decide) (by decide)
  have hp : (([] : List Int).length : Int) + partsOf v.length < 100 := by unfold partsOf parts; split <;> simp <;> omega
  rcases cell_arm ks mb g0 hv hp hx0 with h | ⟨s1, c, l', h1, h2⟩
  · exact Or.inl h
  · right
    obtain ⟨s2, c2, ns, p, L, a1, a2, a3, a4, a5, a6⟩ := cell_good ks mb g0 hv hp
    rw [h1] at a1
    injection a1 with e1 e2
    injection e2 with e2 e3
    subst e1 e2
    have hw := (walk_means ks mb a2 hv a3 (fun y hy => List.mem_append_right _ hy)).2
    have ho := (shPg ks mb).ok_cell v (ShOk.start (lim := 100) (by decide) (by decide))
    rw [h1] at ho
    refine ⟨s1, c, ns, l', h2, Sh.arm_self a2.left, hw, ho, a3.len, walk_arm ks mb a2.left hw hx0 (fun hc hn => hc ?_)⟩
    subst hn
    unfold Means at a3
    split at a3
    · rw [a3.1]
    · rename_i h4
      have := a3.2.1
      unfold parts at this
      simp at this
theorem tight_plain (ks mb : Nat) {v : List UInt8} (hv : v.length ≤ 5000) :
    (partsOf v.length = 0 → ((shPg ks mb).cell (Sh.start 1) v).2.2 = 0) ∧ (0 < partsOf v.length → ((shPg ks mb).cell (Sh.start (partsOf v.length)) v).2.2 = 22) := by
  constructor
  · intro h
    have : v.length ≤ 40 := by unfold partsOf parts at h; split at h <;> omega
    unfold Pg.cell
    rw [if_neg (by omega), if_pos this]
  · intro h
    have h40 : ¬ v.length ≤ 40 := by unfold partsOf at h; split at h <;> omega
    have hp : partsOf v.length = parts v.length := by unfold partsOf; rw [if_neg h40]
    have hb : parts v.length ≤ 23 := by unfold parts; omega
    have g0 : Good (partsOf v.length) (Sh.start (partsOf v.length)) [] 1 0 := Good.start (by omega) (by omega)
    obtain ⟨s', e⟩ := lay_room ks mb hv (parts v.length) 0 g0 (by simp; omega) (by simp; omega)
    rw [cell_err (by omega) hv e (by decide)]
set_option maxHeartbeats 8000000 in
set_option maxRecDepth 100000 in
theorem chainFails_calls (v : List UInt8) (a : Int) (w : World) (hm : v.length ≤ 9223372036854775807) : Calls Tryz.prog 6 #[.string (bs v), .int .i64 a] w fun e w' => e = .returned (.bool true) ∧ Below w.heap.size w w' := by
  have hu := Tryz.underlying24
  have hsz : (bs v).size = v.length := bs_size v
  go_enter Tryz.func6, Tryz.ntmps6
  go_wp2_with fail
  refine (awake11_calls w).mono ?_
  rintro e wa ⟨rfl, hba⟩
  have HBA := Aside0.mk hba
  clear hba
  by_cases hlen : 5000 < v.length
  · have tl : decide ((5000 : Int) < (v.length : Int)) = true := decide_eq_true (by omega)
    go_wp2
    go_ret
    exact ⟨rfl, HBA.out⟩
  · have tl : decide ((5000 : Int) < (v.length : Int)) = false := decide_eq_false (by omega)
    have hv : v.length ≤ 5000 := by omega
    obtain ⟨k, hk, hki⟩ := idx_ a 80 (by decide) (by decide)
    have hki2 : wrap64 ((IntKind.u64.wrap a).tmod 80) = k := hki
    clear hki hlen hm
    go_wp2_with fail
    refine (shelfNew_calls 100 wa (by decide) (by decide)).mono ?_
    rintro e w0 ⟨ks, mb, rfl, hS, hk1, hk2, hB⟩
    have HO := Aside0.mk (show Own ks mb wa.heap.size wa w0 (Sh.start 100) from ⟨hS, hk1, hk2, hB, hB.size⟩)
    clear hS hk1 hk2 hB
    have harm : ∀ (s : Sh) W, ShAt ks mb W s → Calls Tryz.prog 23 #[.pointer (some ⟨ks, 0, none⟩), .int .i64 (1 + (k : Int))] W fun e w' => e = .returned (.tuple #[]) ∧ ShAt ks mb w' (s.arm k) ∧ Fr (ShF ks mb) W w' := fun s W hW => by
      have := shArm_calls ks mb s (1 + (k : Int)) W hW (by omega) (by omega)
      rw [show (1 + (k : Int) - 1) = k from by omega] at this
      exact this
    have HARM := Aside0.mk harm
    have HARM0 := Aside0.mk (fun (s : Sh) W hW => shArm_calls ks mb s 0 W hW (by decide) (by decide))
    have HPL := Aside0.mk (fails_plain ks mb hv (x := (k : Int)) (by omega) (by omega))
    have HQ := Aside0.mk (fun W hW => shCell_calls ks mb ((Sh.start 100).arm k) v W hW (ShOk.arm (ShOk.start (by decide) (by decide)) (by omega)) (by omega))
    clear harm
    go_wp2_with fail
    refine (HARM.out _ _ HO.out.at_).mono ?_
    rintro e w1 ⟨rfl, hs, hf⟩
    replace HO := Aside0.mk (HO.out.fr hs hf)
    clear hs hf
    go_wp2_with fail
    rcases HPL.out with ⟨h40, s', hc⟩ | ⟨s1, ⟨c0, c1, c2⟩, ns, l', hc, hs1, hw, hok, hnl, hval⟩
    · have HH := Aside0.mk HQ.out
      rw [hc] at HH
      have t40 : decide ((40 : Int) < (v.length : Int)) = true := decide_eq_true (by omega)
      clear hc HQ HPL
      refine (HH.out _ HO.out.at_).mono ?_
      rintro e w2 ⟨rfl, hs, hf⟩
      replace HO := Aside0.mk (HO.out.fr hs hf)
      clear hs hf HH
      go_wp2
      go_ret
      exact ⟨rfl, HBA.out.trans ((HO.out.below (below_alloc (Below.refl _ _) _)).base.mono HBA.out.size)⟩
    · have HH := Aside0.mk HQ.out
      rw [hc] at HH
      have HS1 := Aside0.mk hs1
      have HW := Aside0.mk hw
      have HOK := Aside0.mk hok
      have HNL := Aside0.mk hnl
      have HVAL := Aside0.mk hval
      have hnm : ns.length ≤ 30 := by rw [hnl]; unfold partsOf parts; split <;> omega
      clear hc HQ HPL hs1 hw hok hnl hval
      refine (HH.out _ HO.out.at_).mono ?_
      rintro e w2 ⟨rfl, hs, hf⟩
      replace HO := Aside0.mk (HO.out.fr hs hf)
      clear hs hf HH
      go_wp2_with fail
      have HB := Aside0.mk (Beside.new HO.out.at_ (.cells #[.int .i64 c0, .string c1, .int .i64 c2] 24))
      replace HO := Aside0.mk (HO.out.below (below_alloc (Below.refl _ _) (.cells #[.int .i64 c0, .string c1, .int .i64 c2] 24)))
      refine (HARM0.out _ _ HO.out.at_).mono ?_
      rintro e w3 ⟨rfl, hs, hf⟩
      rw [show (⟨(s1.arm l').limit, (s1.arm l').hd, (s1.arm l').f, 0 - 1⟩ : Sh) = s1 from HS1.out] at hs
      replace HO := Aside0.mk (HO.out.fr hs hf)
      replace HB := Aside0.mk (HB.out.fr hf)
      obtain ⟨gb, hgb⟩ : ∃ gb, gb = w2.heap.size := ⟨_, rfl⟩
      rw [← hgb] at HB ⊢
      clear hs hf hgb
      have HL := Aside0.mk (fun W hW => shList_calls ks mb s1 c0 c1 c2 W hW HOK.out)
      rw [HW.out] at HL
      have b0 : w3.cell? ⟨gb, 0, none⟩ = some (.int .i64 c0) := (blk_cell HB.out.at_ 0).trans rfl
      have b1 : w3.cell? ⟨gb, 1, none⟩ = some (.string c1) := (blk_cell HB.out.at_ 1).trans rfl
      have b2 : w3.cell? ⟨gb, 2, none⟩ = some (.int .i64 c2) := (blk_cell HB.out.at_ 2).trans rfl
      go_wp2_with fail
      clear b0 b1 b2
      refine (HL.out _ HO.out.at_).mono ?_
      rintro e w4 ⟨A, cp, rfl, hs, hf, hrow⟩
      replace HO := Aside0.mk (HO.out.fr hs hf)
      replace HB := Aside0.mk (HB.out.fr hf)
      clear hs hf hrow HL
      go_wp2_with fail
      refine (HARM.out _ _ HO.out.at_).mono ?_
      rintro e w5 ⟨rfl, hs, hf⟩
      replace HO := Aside0.mk (HO.out.fr hs hf)
      replace HB := Aside0.mk (HB.out.fr hf)
      clear hs hf
      have HV := Aside0.mk (fun W hW => shValue_calls ks mb (s1.arm k) c0 c1 c2 W hW (HOK.out.arm (by omega)))
      have b0 : w5.cell? ⟨gb, 0, none⟩ = some (.int .i64 c0) := (blk_cell HB.out.at_ 0).trans rfl
      have b1 : w5.cell? ⟨gb, 1, none⟩ = some (.string c1) := (blk_cell HB.out.at_ 1).trans rfl
      have b2 : w5.cell? ⟨gb, 2, none⟩ = some (.int .i64 c2) := (blk_cell HB.out.at_ 2).trans rfl
      go_wp2_with fail
      clear b0 b1 b2 HB
      rcases HVAL.out with ⟨hne, s', hw⟩ | ⟨x', hw⟩
      · have hn0 : 0 < ns.length := List.length_pos_iff.2 hne
        have tn : ((ns.length : Int) == 0) = false := beq_false_of (by omega)
        have tn2 : decide ((0 : Int) < (ns.length : Int)) = true := decide_eq_true (by omega)
        have tn3 : decide (0 < ns.length) = true := decide_eq_true hn0
        rw [hw, show bs [] = (⟨#[]⟩ : ByteArray) from rfl] at HV
        clear hw HVAL hne
        refine (HV.out _ HO.out.at_).mono ?_
        rintro e w6 ⟨rfl, hs, hf⟩
        replace HO := Aside0.mk (HO.out.fr hs hf)
        clear hs hf HV
        go_wp2_with fail
        refine (HARM0.out _ _ HO.out.at_).mono ?_
        rintro e w7 ⟨rfl, hs, hf⟩
        replace HO := Aside0.mk (HO.out.fr hs hf)
        clear hs hf HARM0 HARM
        go_wp2_with fail
        refine (shelfNew_any _ _).mono ?_
        rintro e w8 ⟨ks2, mb2, rfl, hS, hk1, hk2, hB⟩
        rw [show min (max (ns.length : Int) 1) 4096 = ns.length by omega] at hS
        have HO2 := Aside0.mk (show Own ks2 mb2 wa.heap.size wa w8 (Sh.start (ns.length : Int)) from ⟨hS, Nat.le_trans HO.out.size hk1, Nat.le_trans HO.out.size hk2, HO.out.base.trans (hB.mono HO.out.size), Nat.le_trans HO.out.size hB.size⟩)
        clear hS hk1 hk2 hB HO
        have hc := fun W hW => shCell_calls ks2 mb2 (Sh.start (ns.length : Int)) v W hW (ShOk.start (by omega) (by omega)) (by omega)
        have hx : ((shPg ks2 mb2).cell (Sh.start (ns.length : Int)) v).2.2 = 22 := by have := (tight_plain ks2 mb2 hv).2 (by rw [← HNL.out]; exact hn0); rw [← HNL.out] at this; exact this
        obtain ⟨⟨r1, ⟨r2, r3, r4⟩, r5⟩, hr⟩ : ∃ r, r = (shPg ks2 mb2).cell (Sh.start (ns.length : Int)) v := ⟨_, rfl⟩
        rw [← hr] at hc hx
        dsimp only at hc hx
        subst hx
        have HC := Aside0.mk hc
        clear hc hr
        go_wp2_with fail
        refine (HC.out _ HO2.out.at_).mono ?_
        rintro e w9 ⟨rfl, hs, hf⟩
        replace HO2 := Aside0.mk (HO2.out.fr hs hf)
        clear hs hf HC
        go_wp2
        go_ret
        exact ⟨rfl, HBA.out.trans (HO2.out.base.mono HBA.out.size)⟩
      · rw [hw] at HV
        clear hw HVAL
        by_cases hn0 : ns.length = 0
        · have tn : ((ns.length : Int) == 0) = true := by simp [hn0]
          refine (HV.out _ HO.out.at_).mono ?_
          rintro e w6 ⟨rfl, hs, hf⟩
          replace HO := Aside0.mk (HO.out.fr hs hf)
          clear hs hf HV
          go_wp2_with fail
          refine (HARM0.out _ _ HO.out.at_).mono ?_
          rintro e w7 ⟨rfl, hs, hf⟩
          replace HO := Aside0.mk (HO.out.fr hs hf)
          clear hs hf HARM0 HARM
          go_wp2_with fail
          refine (shelfNew_any _ _).mono ?_
          rintro e w8 ⟨ks2, mb2, rfl, hS, hk1, hk2, hB⟩
          rw [show min (max (0 : Int) 1) 4096 = 1 from by decide] at hS
          have HO2 := Aside0.mk (show Own ks2 mb2 wa.heap.size wa w8 (Sh.start 1) from ⟨hS, Nat.le_trans HO.out.size hk1, Nat.le_trans HO.out.size hk2, HO.out.base.trans (hB.mono HO.out.size), Nat.le_trans HO.out.size hB.size⟩)
          clear hS hk1 hk2 hB HO
          have hc := fun W hW => shCell_calls ks2 mb2 (Sh.start 1) v W hW (ShOk.start (by decide) (by decide)) (by omega)
          have hx : ((shPg ks2 mb2).cell (Sh.start 1) v).2.2 = 0 := (tight_plain ks2 mb2 hv).1 (by rw [← HNL.out]; exact hn0)
          obtain ⟨⟨r1, ⟨r2, r3, r4⟩, r5⟩, hr⟩ : ∃ r, r = (shPg ks2 mb2).cell (Sh.start 1) v := ⟨_, rfl⟩
          rw [← hr] at hc hx
          dsimp only at hc hx
          subst hx
          have HC := Aside0.mk hc
          clear hc hr
          go_wp2_with fail
          refine (HC.out _ HO2.out.at_).mono ?_
          rintro e w9 ⟨rfl, hs, hf⟩
          replace HO2 := Aside0.mk (HO2.out.fr hs hf)
          clear hs hf HC
          go_wp2
          go_ret
          exact ⟨rfl, HBA.out.trans (HO2.out.base.mono HBA.out.size)⟩
        · have tn : ((ns.length : Int) == 0) = false := beq_false_of (by omega)
          have tn2 : decide ((0 : Int) < (ns.length : Int)) = true := decide_eq_true (by omega)
          have tn3 : decide (0 < ns.length) = true := decide_eq_true (by omega)
          replace hn0 : 0 < ns.length := by omega
          refine (HV.out _ HO.out.at_).mono ?_
          rintro e w6 ⟨rfl, hs, hf⟩
          replace HO := Aside0.mk (HO.out.fr hs hf)
          clear hs hf HV
          go_wp2_with fail
          refine (HARM0.out _ _ HO.out.at_).mono ?_
          rintro e w7 ⟨rfl, hs, hf⟩
          replace HO := Aside0.mk (HO.out.fr hs hf)
          clear hs hf HARM0 HARM
          go_wp2_with fail
          refine (shelfNew_any _ _).mono ?_
          rintro e w8 ⟨ks2, mb2, rfl, hS, hk1, hk2, hB⟩
          rw [show min (max (ns.length : Int) 1) 4096 = ns.length by omega] at hS
          have HO2 := Aside0.mk (show Own ks2 mb2 wa.heap.size wa w8 (Sh.start (ns.length : Int)) from ⟨hS, Nat.le_trans HO.out.size hk1, Nat.le_trans HO.out.size hk2, HO.out.base.trans (hB.mono HO.out.size), Nat.le_trans HO.out.size hB.size⟩)
          clear hS hk1 hk2 hB HO
          have hc := fun W hW => shCell_calls ks2 mb2 (Sh.start (ns.length : Int)) v W hW (ShOk.start (by omega) (by omega)) (by omega)
          have hx : ((shPg ks2 mb2).cell (Sh.start (ns.length : Int)) v).2.2 = 22 := by have := (tight_plain ks2 mb2 hv).2 (by rw [← HNL.out]; exact hn0); rw [← HNL.out] at this; exact this
          obtain ⟨⟨r1, ⟨r2, r3, r4⟩, r5⟩, hr⟩ : ∃ r, r = (shPg ks2 mb2).cell (Sh.start (ns.length : Int)) v := ⟨_, rfl⟩
          rw [← hr] at hc hx
          dsimp only at hc hx
          subst hx
          have HC := Aside0.mk hc
          clear hc hr
          go_wp2_with fail
          refine (HC.out _ HO2.out.at_).mono ?_
          rintro e w9 ⟨rfl, hs, hf⟩
          replace HO2 := Aside0.mk (HO2.out.fr hs hf)
          clear hs hf HC
          go_wp2
          go_ret
          exact ⟨rfl, HBA.out.trans (HO2.out.base.mono HBA.out.size)⟩
end Go.Proofs.YtonbipaajhokfaaGreatDoor
end
