/-
  Rows and what stands past a call.
-/
import Derived.Test.YtonbipaajhokfaaD3
set_option linter.unusedVariables false
set_option linter.unusedSimpArgs false
namespace Go.Proofs.Ytonbipaajhokfaa
open Go.RowKit Go.Proofs.YtonbipaajhokfaaW.PrintWords Go.Proofs.YtonbipaajhokfaaW.PrintLast Go.Proofs.YtonbipaajhokfaaW.PrintMore

theorem R_cellk {w : World} {B : Nat} {ok : Nat → Prop} {ad : Addr} {n c : Nat} {u : List Int} (h : (Kd.int .i64).R 3 w B ok (.slice (some ad) n c) u) (k : Nat) (hk : k < u.length) : w.cell? (ad.add k) = some (.int .i64 (u.getD k 0)) := by
  obtain ⟨h1, h2, h3⟩ := Kd.R_reads' h
  have h4 := Kd.C_max h3
  obtain ⟨ad', e, h5⟩ := Kd.at_int h3 (k : Int) (by omega) (by omega)
  injection e with e
  subst e
  rw [Int.toNat_natCast] at h5
  rw [h5]
  simp [rd]
theorem Past.R {F F' : Nat → Prop} {w w' : World} {B : Nat} {v : Value} {u : List Int} (h : Past F F' w w') (hR : (Kd.int .i64).R 3 w B (fun k => ¬ F k ∧ B ≤ k) v u) : (Kd.int .i64).R 3 w' B (fun k => ¬ F' k ∧ B ≤ k) v u := by
  have h1 := Kd.R_step (Kd.R_bound hR) (w1 := w') (fun k ho hlt => (h.2 k hlt ho.1.1).2)
  exact Kd.R_mono h1 (fun k hk => ⟨(h.2 k hk.2.2.1 hk.1.1).1, hk.1.2⟩)
theorem idx_ (x : Int) (n : Nat) (h : 0 < n) (h2 : n ≤ 9223372036854775807) : ∃ k : Nat, k < n ∧ wrap64 ((IntKind.u64.wrap x).tmod n) = k := by
  have h0 : 0 ≤ IntKind.u64.wrap x := by rw [IntKind.wrap_u64]; omega
  have h1 : 0 ≤ (IntKind.u64.wrap x).tmod n := Int.tmod_nonneg _ h0
  have h3 : (IntKind.u64.wrap x).tmod n < n := Int.tmod_lt_of_pos _ (by omega)
  refine ⟨((IntKind.u64.wrap x).tmod n).toNat, by omega, ?_⟩
  unfold wrap64
  omega
theorem Hold.drew {St : Type} {S : Shop St} {B : Nat} {w0 w : World} {s : St} {F : Nat → Prop} (h : Hold S B w0 w s F) : Hold S B w0 w.drew s F := h.below (Below.refl _ _).drew
theorem Hold.alloc {St : Type} {S : Shop St} {B : Nat} {w0 w : World} {s : St} {F : Nat → Prop} (h : Hold S B w0 w s F) (o : Obj) : Hold S B w0 (w.alloc o) s F := h.below (below_alloc (Below.refl _ _) o)
theorem no335 : ∀ q : Nat, q ∈ 3 :: (Kd.int .i64).E → q ≠ 35 := fun q hq => by simp [Kd.int, Kd.scalar] at hq; omega
theorem R_set6 {w : World} {B g : Nat} {ok : Nat → Prop} {v : Value} {u : List Int} {x0 x1 x2 x3 x4 x5 : Value} (h : (Kd.int .i64).R 3 w B ok v u) (hb : w.heap[g]? = some (.cells #[x0, x1, x2, x3, x4, x5] 35 (0, 0))) (y0 y1 y2 y3 y4 y5 : Value) :
    (Kd.int .i64).R 3 ((((((w.setCell ⟨g, 0, none⟩ y0).setCell ⟨g, 1, none⟩ y1).setCell ⟨g, 2, none⟩ y2).setCell ⟨g, 3, none⟩ y3).setCell ⟨g, 4, none⟩ y4).setCell ⟨g, 5, none⟩ y5) B ok v u := by
  have b0 := blk_put hb 0 y0 rfl
  have b1 := blk_put b0 1 y1 rfl
  have b2 := blk_put b1 2 y2 rfl
  have b3 := blk_put b2 3 y3 rfl
  have b4 := blk_put b3 4 y4 rfl
  exact Kd.R_set (Kd.R_set (Kd.R_set (Kd.R_set (Kd.R_set (Kd.R_set h hb no335 0 y0) b0 no335 1 y1) b1 no335 2 y2) b2 no335 3 y3) b3 no335 4 y4) b4 no335 5 y5
theorem Hold.grown {St : Type} {S : Shop St} {B : Nat} {w0 w w' : World} {s : St} {F : Nat → Prop} {row : Option Nat} (h : Hold S B w0 w s F) (hg : w.grownBy w' row) (hr : ∀ k, row = some k → ¬ F k ∧ B ≤ k) : Hold S B w0 w' s F :=
  ⟨S.keep h.1 (fun k hk => hg.block k (S.bound h.1 k hk) (fun e => (hr k e.symm).1 hk)) hg.size, h.2.1, h.2.2.1.grown hg h.2.2.2 (fun k e => (hr k e).2), Nat.le_trans h.2.2.2 hg.size⟩
theorem cut_from (A : Option Addr) (n c k : Nat) (h : k + 1 ≤ n) (W : World) : (Instr.slice 22 (.slice A n c) (some (.int .i64 ((k : Int) + 1))) none none).run Try.prog W = .ok (.slice (if c = k + 1 then A else A.map (·.add (k + 1))) (n - (k + 1)) (c - (k + 1))) W := by
  have hel : Try.prog.elem 22 = 3 := by kernel_rfl
  have hu : Try.prog.underlying 22 = some (.slice (Try.prog.elem 22)) := by rw [hel]; exact Try.underlying22
  obtain ⟨i, hi, hz⟩ := Option.map_eq_some_iff.1 info3
  simp only [Prod.mk.injEq] at hz
  rw [run_slice_l W 22 A n c hu .i64 ((k : Int) + 1) (by omega) (by omega), hel]
  have e : ((k : Int) + 1).toNat = k + 1 := by omega
  simp [sizeOf, typeInfo, hi, hz.2.1, sliced, Result.andThen, e]
theorem S_bound {St : Type} {S : Shop St} {B : Nat} {w0 w : World} {s : St} {F : Nat → Prop} (h : Hold S B w0 w s F) : ∀ k, F k → k < w.heap.size := S.bound h.1
theorem C_upto {w : World} {ad : Addr} {u : List Int} (h : (Kd.int .i64).C w (some ad) u.length u) (k : Nat) (hk : k ≤ u.length) : (Kd.int .i64).C w (some ad) k (u.take k) := by
  have := Kd.C_take h hk
  rwa [List.length_take, Nat.min_eq_left hk] at this
theorem C_from {w : World} {ad : Addr} {c : Nat} {u : List Int} (h : (Kd.int .i64).C w (some ad) u.length u) (k : Nat) (hk : k ≤ u.length) (hc : u.length ≤ c) : (Kd.int .i64).C w (if c = k then some ad else some (ad.add k)) (u.length - k) (u.drop k) := by
  have := Kd.C_drop h hk hc
  rw [List.length_drop] at this
  simpa [Kd.int, Kd.scalar] using this
theorem chain_zero {look : Int → ByteArray} {t : Int} {c : List (Int × List Int)} (h : Chain look t c) : (t == 0) = decide ((flat c).length = 0) := by
  rcases h.top with h | h
  · rw [h.1, h.2]; rfl
  · have h1 : 0 < (flat c).length := List.length_pos_of_mem h.2.2.1
    rw [decide_eq_false (by omega)]
    simp
    omega
/-- Take, with free pages and without. -/
theorem once_take_all {kd kb m : Nat} {p : Int} {s : Desk} {t : Int} {c : List (Int × List Int)} {u : List Int} (ho : (deskLive kd kb).ok (m + 2) s) (hc : Chain ((deskLive kd kb).look s) t c) (hi : Inv u (flat c) p) (hp : p < 4096) :
    ∃ nn p' t' s' c', (deskShop kd kb).take s ⟨1, p, t, ((flat c).length : Int), 0, 0⟩ = (s', nn, ⟨1, p', t', ((flat c').length : Int), 0, 0⟩, 0) ∧ Chain ((deskLive kd kb).look s') t' c' ∧ Inv (u ++ [nn]) (flat c') p' ∧ (deskLive kd kb).ok m s' ∧
      1 ≤ nn ∧ nn < p' ∧ nn ∉ u ∧ p ≤ p' ∧ p' ≤ p + 1 ∧ ((0 < (flat c).length ∧ (flat c).length = (flat c').length + 1) ∨ ((flat c).length = 0 ∧ (flat c').length = 0)) := by
  have h1 : 1 ≤ p := by have := hi.1; omega
  cases hf : flat c with
  | nil =>
    rw [hf] at hi
    refine ⟨p, p + 1, t, s, c, ?_, hc, by rw [hf]; exact hi.new, (deskLive kd kb).mono ((deskLive kd kb).mono ho), h1, by omega, fun hm => ?_, by omega, by omega, Or.inr ⟨rfl, by rw [hf]; rfl⟩⟩
    · have := take_none (deskShop kd kb) s ⟨1, p, t, 0, 0, 0⟩ rfl hp
      rw [hf]
      exact this
    · have := hi.2.2 p (List.mem_append_left _ hm); omega
  | cons x st =>
    obtain ⟨s', t', c', e1, e2, e3, e4⟩ := once_take ho hc hi hf
    rw [hf] at hi e1
    have hx := hi.2.2 x (List.mem_append_right u (by simp))
    refine ⟨x, p, t', s', c', ?_, e2, by rw [e3]; exact hi.take, e4, hx.1, hx.2, fun hm => ?_, by omega, by omega, Or.inl ⟨by simp, by rw [e3]; simp⟩⟩
    · rw [e3]; exact e1
    · exact (List.nodup_append.1 hi.2.1).2.2 x hm x (by simp) rfl
end Go.Proofs.Ytonbipaajhokfaa
