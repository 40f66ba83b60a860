/-
  Walk: SpareBack.
-/
import Derived.Test.YtonbipaajhokfaaC4
set_option linter.unusedVariables false
set_option linter.unusedSimpArgs false
namespace Go.Proofs.Ytonbipaajhokfaa
open Go.RowKit Go.Proofs.YtonbipaajhokfaaW.PrintWords Go.Proofs.YtonbipaajhokfaaW.PrintLast Go.Proofs.YtonbipaajhokfaaW.PrintMore

def downs : Nat → List Int
  | 0 => []
  | j + 1 => ((j : Int) + 1) :: downs j
theorem downs_length (j : Nat) : (downs j).length = j := by
  induction j with
  | zero => rfl
  | succ j ih => simp [downs, ih]
theorem mem_downs {j : Nat} {x : Int} : x ∈ downs j ↔ 1 ≤ x ∧ x ≤ j := by
  induction j with
  | zero => simp [downs]; omega
  | succ j ih => simp only [downs, List.mem_cons, ih]; omega
theorem downs_nodup (j : Nat) : (downs j).Nodup := by
  induction j with
  | zero => simp [downs]
  | succ j ih => simp only [downs, List.nodup_cons, mem_downs]; exact ⟨by omega, ih⟩
theorem desk_new_ok2 (kd kb : Nat) : (deskLive kd kb).ok 1000 Desk.new := by
  show _ ∧ _ ∧ _
  unfold Desk.new
  simp

/-- The pages above r are marked. -/
def Seen (n r : Nat) (cs : Array Value) : Prop := cs.size = n + 1 ∧ ∀ k, k ≤ n → cs[k]? = some (.bool (decide (r < k)))
theorem Seen.start (n : Nat) : Seen n n (madeCells #[.bool false] (n + 1)) := by
  refine ⟨by simp [madeCells], fun k hk => ?_⟩
  rw [decide_eq_false (by omega)]
  unfold madeCells
  rw [Array.getElem?_map, Array.getElem?_range, if_pos (by omega)]
  simp [Nat.mod_one]
theorem Seen.at_ {n r : Nat} {cs : Array Value} (h : Seen n (r + 1) cs) (hr : r + 1 ≤ n) : cs[r + 1]? = some (.bool false) := by
  rw [h.2 _ hr, decide_eq_false (by omega)]
theorem Seen.set {n r : Nat} {cs : Array Value} (h : Seen n (r + 1) cs) (hr : r + 1 ≤ n) : Seen n r (cs.set! (r + 1) (.bool true)) := by
  refine ⟨by simp [h.1], fun k hk => ?_⟩
  rw [Array.set!_eq_setIfInBounds, Array.getElem?_setIfInBounds]
  by_cases e : r + 1 = k
  · subst e; rw [if_pos rfl, if_pos (by rw [h.1]; omega), decide_eq_true (by omega)]
  · rw [if_neg e, h.2 k hk]
    congr 2
    simp
    omega
theorem far6 {w : World} {g k : Nat} {cs : Array Value} {t : TypeId} (h : w.heap[k]? = some (.cells cs t (0, 0))) (hn : k ≠ g) (y0 y1 y2 y3 y4 y5 : Value) :
    ((((((w.setCell ⟨g, 0, none⟩ y0).setCell ⟨g, 1, none⟩ y1).setCell ⟨g, 2, none⟩ y2).setCell ⟨g, 3, none⟩ y3).setCell ⟨g, 4, none⟩ y4).setCell ⟨g, 5, none⟩ y5).heap[k]? = some (.cells cs t (0, 0)) :=
  blk_far (p := ⟨g, 5, none⟩) (blk_far (p := ⟨g, 4, none⟩) (blk_far (p := ⟨g, 3, none⟩) (blk_far (p := ⟨g, 2, none⟩) (blk_far (p := ⟨g, 1, none⟩) (blk_far (p := ⟨g, 0, none⟩) h hn _) hn _) hn _) hn _) hn _) hn _
theorem info4 : (Try.prog.info? 4).map (fun i => (i.zero, i.size, i.bytes)) = some (some (.bool false), 1, 1) := by kernel_rfl
theorem make59 (n : Nat) (h : n < 200) (w : World) : (Instr.makeSlice 59 (.int .i64 ((n : Int) + 1)) (.int .i64 ((n : Int) + 1))).run Try.prog w = .ok (.slice (some ⟨w.heap.size, 0, none⟩) (n + 1) (n + 1)) (w.alloc (.cells (madeCells #[.bool false] (n + 1)) 4)) :=
  run_make_row' (P := Try.prog) 59 4 (.bool false) 1 Try.underlying59 info4 rfl .i64 .i64 (n + 1) (by omega) (by omega) w
theorem give_down {kd kb k n j : Nat} {s : Desk} {t : Int} {c : List (Int × List Int)} {md : Int} (ho : (deskLive kd kb).ok (k + 2) s) (hc : Chain ((deskLive kd kb).look s) t c) (hf : flat c = downs j) (hj : j < n) (hn : n < 4000) :
    ∃ s' t' c', (deskShop kd kb).give s ⟨md, (n : Int) + 1, t, j, 0, 0⟩ ((j : Int) + 1) = (s', ⟨md, (n : Int) + 1, t', (j : Int) + 1, 0, 0⟩, 0) ∧ Chain ((deskLive kd kb).look s') t' c' ∧ flat c' = downs (j + 1) ∧ (deskLive kd kb).ok k s' := by
  obtain ⟨s', t', c', h1, h2, h3, h4⟩ := (deskLive kd kb).give (hd := ⟨md, (n : Int) + 1, t, j, 0, 0⟩) (n := (j : Int) + 1) ho hc (by rw [hf, downs_length]) (by omega) (by show (j : Int) + 1 < (n : Int) + 1; omega) (by show (n : Int) + 1 ≤ 4096; omega) (by show (j : Int) < (n : Int) + 1 - 1; omega) (by rw [hf, mem_downs]; omega) (by rw [hf]; exact downs_nodup j)
  exact ⟨s', t', c', h1, h2, by rw [h3, hf]; rfl, h4⟩
theorem take_down {kd kb k n j : Nat} {s : Desk} {t : Int} {c : List (Int × List Int)} {md : Int} (ho : (deskLive kd kb).ok (k + 2) s) (hc : Chain ((deskLive kd kb).look s) t c) (hf : flat c = downs (j + 1)) (hj : j < n) (hn : n < 4000) :
    ∃ s' t' c', (deskShop kd kb).take s ⟨md, (n : Int) + 1, t, (j : Int) + 1, 0, 0⟩ = (s', (j : Int) + 1, ⟨md, (n : Int) + 1, t', j, 0, 0⟩, 0) ∧ Chain ((deskLive kd kb).look s') t' c' ∧ flat c' = downs j ∧ (deskLive kd kb).ok k s' := by
  obtain ⟨s', t', c', h1, h2, h3, h4⟩ := (deskLive kd kb).take (hd := ⟨md, (n : Int) + 1, t, (j : Int) + 1, 0, 0⟩) (x := (j : Int) + 1) (st := downs j) ho hc hf (by rw [hf, downs_length]; simp) (by
    rw [hf]; intro y hy; rw [mem_downs] at hy; show 1 ≤ y ∧ y < (n : Int) + 1; omega) (by rw [hf]; exact downs_nodup (j + 1))
  refine ⟨s', t', c', ?_, h2, h3, h4⟩
  rw [h1]
  simp


set_option maxHeartbeats 4000000 in
set_option maxRecDepth 100000 in
theorem spareBack_calls (n0 : Int) (w : World) : Calls Try.prog 6 #[.int .i64 n0] w fun e w' => e = .returned (.bool true) ∧ Below w.heap.size w w' := by
  have hu35 := Try.underlying35
  obtain ⟨n, hn⟩ : ∃ n : Nat, (n : Int) = IntKind.u64.wrap n0 % 200 := ⟨(IntKind.u64.wrap n0 % 200).toNat, by rw [IntKind.wrap_u64]; omega⟩
  have hn2 : n < 200 := by rw [IntKind.wrap_u64] at hn; omega
  go_enter Try.func6, Try.ntmps6
  go_wp2_with (go_at_call 11; refine (awake_calls _).mono ?_; rintro e w0 ⟨rfl, hB0⟩)
  have hw : wrap64 ((IntKind.u64.wrap n0).tmod 200) = (n : Int) := by
    rw [hn, IntKind.wrap_u64, Int.tmod_eq_emod_of_nonneg (by omega)]
    unfold wrap64
    omega
  rw [hw]
  refine (fresh_calls _).mono ?_
  rintro e w1 ⟨kd, kb, rfl, F, hA, hF, hB⟩
  have HH0 := Aside0.mk (show Hold (deskShop kd kb) w.heap.size w w1 Desk.new F from ⟨hA, fun k hk => Nat.le_trans hB0.size (hF k hk), hB0.trans (hB.mono hB0.size), Nat.le_trans hB0.size hB.size⟩)
  clear hA hF hB hB0 hw hn
  have hn1 : wrap64 ((n : Int) + 1) = (n : Int) + 1 := by unfold wrap64; omega
  go_wp2_with fail
  obtain ⟨g, hg⟩ : ∃ g, g = w1.heap.size := ⟨_, rfl⟩
  obtain ⟨wh, hwh⟩ : ∃ wh, wh = w1.alloc (.cells #[.int .i64 2, .int .i64 ((n : Int) + 1), .int .i64 0, .int .i64 0, .int .i64 0, .int .u64 0] 35) := ⟨_, rfl⟩
  have HK := Aside0.mk (show wh.heap[g]? = some (.cells #[.int .i64 2, .int .i64 ((n : Int) + 1), .int .i64 0, .int .i64 0, .int .i64 0, .int .u64 0] 35 (0, 0)) by rw [hwh, hg]; exact blk_new w1 _)
  have HH := Aside0.mk (show Hold (deskShop kd kb) w.heap.size w wh Desk.new F by rw [hwh]; exact HH0.out.below (below_alloc (Below.refl _ _) _))
  have HN := Aside0.mk (show ¬ F g by rw [hg]; exact HH0.out.fresh)
  have HG := Aside0.mk (show w.heap.size ≤ g by rw [hg]; exact HH0.out.2.2.2)
  rw [← hwh, ← hg]
  clear hwh hg HH0
  go_loopw [5] (fun i wr => ∃ (j : Nat) (s : Desk) (t : Int) (c : List (Int × List Int)) (F : Nat → Prop), j ≤ n ∧ i = .int .i64 ((j : Int) + 1) ∧ Aside0 (wr.heap[g]? = some (.cells #[.int .i64 2, .int .i64 ((n : Int) + 1), .int .i64 t, .int .i64 j, .int .i64 0, .int .u64 0] 35 (0, 0))) ∧ Aside0 (Hold (deskShop kd kb) w.heap.size w wr s F) ∧ Aside0 (¬ F g) ∧
      Aside0 (Chain ((deskLive kd kb).look s) t c) ∧ Aside0 (flat c = downs j) ∧ Aside0 ((deskLive kd kb).ok (1000 - 2 * j) s)) (fun i _ => n + 1 - (intOf i).toNat)
  case atStart => exact ⟨0, Desk.new, 0, [], F, Nat.zero_le _, rfl, HK, HH, HN, ⟨rfl⟩, ⟨rfl⟩, ⟨desk_new_ok2 kd kb⟩⟩
  case round =>
    clear HK HH HN
    obtain ⟨j, s, t, c, F1, hj, rfl, HK, HH, HN, HC, HF, HO⟩ := hrel
    have hj1 : wrap64 ((j : Int) + 1 + 1) = (j : Int) + 1 + 1 := by unfold wrap64; omega
    by_cases hlt : j < n
    · have t1 : decide ((j : Int) + 1 ≤ (n : Int)) = true := decide_eq_true (by omega)
      have a0 : wr.cell? ⟨g, 0, none⟩ = some (.int .i64 2) := (blk_cell HK.out 0).trans rfl
      have a1 : wr.cell? ⟨g, 1, none⟩ = some (.int .i64 ((n : Int) + 1)) := (blk_cell HK.out 1).trans rfl
      have a2 : wr.cell? ⟨g, 2, none⟩ = some (.int .i64 t) := (blk_cell HK.out 2).trans rfl
      have a3 : wr.cell? ⟨g, 3, none⟩ = some (.int .i64 j) := (blk_cell HK.out 3).trans rfl
      have a4 : wr.cell? ⟨g, 4, none⟩ = some (.int .i64 0) := (blk_cell HK.out 4).trans rfl
      have a5 : wr.cell? ⟨g, 5, none⟩ = some (.int .u64 0) := (blk_cell HK.out 5).trans rfl
      have af0 : wr.frozen? ⟨g, 0, none⟩ = false := blk_frozen HK.out 0
      have af1 : wr.frozen? ⟨g, 1, none⟩ = false := blk_frozen HK.out 1
      have af2 : wr.frozen? ⟨g, 2, none⟩ = false := blk_frozen HK.out 2
      have af3 : wr.frozen? ⟨g, 3, none⟩ = false := blk_frozen HK.out 3
      have af4 : wr.frozen? ⟨g, 4, none⟩ = false := blk_frozen HK.out 4
      have af5 : wr.frozen? ⟨g, 5, none⟩ = false := blk_frozen HK.out 5
      go_wp2_with fail
      obtain ⟨s', t', c', e1, e2, e3, e4⟩ := give_down (k := 1000 - 2 * (j + 1)) (md := 2) (by have := HO.out; rwa [show 1000 - 2 * j = 1000 - 2 * (j + 1) + 2 by omega] at this) HC.out HF.out hlt (by omega)
      have hfit := (deskLive kd kb).fits (k := 999 - 2 * j) (by have := HO.out; rwa [show 1000 - 2 * j = 999 - 2 * j + 1 by omega] at this)
      refine (HH.out.giveE e1 hfit (by omega) (by omega) (by omega)).mono ?_
      rintro e w2 ⟨rfl, F2, hH2, hP2⟩
      have HN2 := Aside0.mk (hP2.out HK.out HN.out)
      replace HK := Aside0.mk (hP2.blk HK.out HN.out)
      replace HN := HN2
      replace HH := Aside0.mk hH2
      replace HC := Aside0.mk e2
      replace HF := Aside0.mk e3
      replace HO := Aside0.mk e4
      clear e1 e2 e3 e4 hfit hH2 hP2 HN2 a0 af0 a1 af1 a2 af2 a3 af3 a4 af4 a5 af5
      have a0 : ∀ o, (w2.alloc o).cell? ⟨g, 0, none⟩ = some (.int .i64 2) := fun o => (blk_cell (blk_alloc HK.out o) 0).trans rfl
      have a1 : ∀ o, (w2.alloc o).cell? ⟨g, 1, none⟩ = some (.int .i64 ((n : Int) + 1)) := fun o => (blk_cell (blk_alloc HK.out o) 1).trans rfl
      have a2 : ∀ o, (w2.alloc o).cell? ⟨g, 2, none⟩ = some (.int .i64 t) := fun o => (blk_cell (blk_alloc HK.out o) 2).trans rfl
      have a3 : ∀ o, (w2.alloc o).cell? ⟨g, 3, none⟩ = some (.int .i64 j) := fun o => (blk_cell (blk_alloc HK.out o) 3).trans rfl
      have a4 : ∀ o, (w2.alloc o).cell? ⟨g, 4, none⟩ = some (.int .i64 0) := fun o => (blk_cell (blk_alloc HK.out o) 4).trans rfl
      have a5 : ∀ o, (w2.alloc o).cell? ⟨g, 5, none⟩ = some (.int .u64 0) := fun o => (blk_cell (blk_alloc HK.out o) 5).trans rfl
      have af0 : ∀ o, (w2.alloc o).frozen? ⟨g, 0, none⟩ = false := fun o => blk_frozen (blk_alloc HK.out o) 0
      have af1 : ∀ o, (w2.alloc o).frozen? ⟨g, 1, none⟩ = false := fun o => blk_frozen (blk_alloc HK.out o) 1
      have af2 : ∀ o, (w2.alloc o).frozen? ⟨g, 2, none⟩ = false := fun o => blk_frozen (blk_alloc HK.out o) 2
      have af3 : ∀ o, (w2.alloc o).frozen? ⟨g, 3, none⟩ = false := fun o => blk_frozen (blk_alloc HK.out o) 3
      have af4 : ∀ o, (w2.alloc o).frozen? ⟨g, 4, none⟩ = false := fun o => blk_frozen (blk_alloc HK.out o) 4
      have af5 : ∀ o, (w2.alloc o).frozen? ⟨g, 5, none⟩ = false := fun o => blk_frozen (blk_alloc HK.out o) 5
      go_wp2
      go_roundw
      case measure => show n + 1 - _ < n + 1 - _; simp only [intOf]; omega
      case rel => exact ⟨j + 1, s', t', c', F2, by omega, rfl, ⟨put6 (blk_alloc HK.out _) _ _ _ _ _ _⟩, ⟨(HH.out.below (below_alloc (Below.refl _ _) _)).set6 HN.out HG.out _ _ _ _ _ _⟩, HN, HC, HF, HO⟩
    · have t1 : decide ((j : Int) + 1 ≤ (n : Int)) = false := decide_eq_false (by omega)
      obtain rfl : j = n := by omega
      clear hj hlt
      have hmk := make59 j hn2
      go_wp2_with fail
      clear hmk
      obtain ⟨q, hq⟩ : ∃ q, q = wr.heap.size := ⟨_, rfl⟩
      obtain ⟨wq, hwq⟩ : ∃ wq, wq = wr.alloc (.cells (madeCells #[.bool false] (j + 1)) 4) := ⟨_, rfl⟩
      replace HK := Aside0.mk (show wq.heap[g]? = some (.cells #[.int .i64 2, .int .i64 ((j : Int) + 1), .int .i64 t, .int .i64 j, .int .i64 0, .int .u64 0] 35 (0, 0)) by rw [hwq]; exact blk_alloc HK.out _)
      have HQ := Aside0.mk (show wq.heap[q]? = some (.cells (madeCells #[.bool false] (j + 1)) 4 (0, 0)) by rw [hwq, hq]; exact blk_new wr _)
      have HNQ := Aside0.mk (show ¬ F1 q by rw [hq]; exact HH.out.fresh)
      have HGQ := Aside0.mk (show w.heap.size ≤ q by rw [hq]; exact HH.out.2.2.2)
      replace HH := Aside0.mk (show Hold (deskShop kd kb) w.heap.size w wq s F1 by rw [hwq]; exact HH.out.below (below_alloc (Below.refl _ _) _))
      have HGN := Aside0.mk (show g ≠ q by intro e; have h1 := HK.out; rw [e, HQ.out] at h1; injection h1 with h1; injection h1 with _ h1; exact absurd h1 (by decide))
      rw [← hwq, ← hq]
      clear hwq hq
      go_loopw [9] (fun i wr => ∃ (r : Nat) (s : Desk) (t : Int) (c : List (Int × List Int)) (F : Nat → Prop) (cs : Array Value), r ≤ j ∧ i = .int .i64 ((j : Int) - r) ∧ Aside0 (wr.heap[g]? = some (.cells #[.int .i64 2, .int .i64 ((j : Int) + 1), .int .i64 t, .int .i64 r, .int .i64 0, .int .u64 0] 35 (0, 0))) ∧
          Aside0 (wr.heap[q]? = some (.cells cs 4 (0, 0))) ∧ Aside0 (Seen j r cs) ∧ Aside0 (Hold (deskShop kd kb) w.heap.size w wr s F) ∧ Aside0 (¬ F g) ∧ Aside0 (¬ F q) ∧
          Aside0 (Chain ((deskLive kd kb).look s) t c) ∧ Aside0 (flat c = downs r) ∧ Aside0 ((deskLive kd kb).ok (1000 - 2 * j - 2 * (j - r)) s)) (fun i _ => j - (intOf i).toNat)
      case atStart => exact ⟨j, s, t, c, F1, _, Nat.le_refl _, by simp, HK, HQ, ⟨Seen.start j⟩, HH, HN, HNQ, HC, HF, ⟨by have := HO.out; rwa [show 1000 - 2 * j = 1000 - 2 * j - 2 * (j - j) by omega] at this⟩⟩
      case round =>
        clear HK HQ HH HN HNQ HC HF HO
        obtain ⟨r, s, t, c, F1, cs, hr, rfl, HK, HQ, HS, HH, HN, HNQ, HC, HF, HO⟩ := hrel
        have hr1 : wrap64 ((j : Int) - r + 1) = (j : Int) - r + 1 := by unfold wrap64; omega
        cases r with
        | zero =>
          have t2 : decide ((j : Int) - ((0 : Nat) : Int) < (j : Int)) = false := decide_eq_false (by omega)
          have ht : t = 0 := by
            rcases HC.out.top with h | h
            · exact h.1
            · have h1 := h.2.2.1; rw [HF.out] at h1; simp [downs] at h1
          subst ht
          have a0 : wr.cell? ⟨g, 0, none⟩ = some (.int .i64 2) := (blk_cell HK.out 0).trans rfl
          have a1 : wr.cell? ⟨g, 1, none⟩ = some (.int .i64 ((j : Int) + 1)) := (blk_cell HK.out 1).trans rfl
          have a2 : wr.cell? ⟨g, 2, none⟩ = some (.int .i64 0) := (blk_cell HK.out 2).trans rfl
          have a3 : wr.cell? ⟨g, 3, none⟩ = some (.int .i64 0) := (blk_cell HK.out 3).trans rfl
          have a4 : wr.cell? ⟨g, 4, none⟩ = some (.int .i64 0) := (blk_cell HK.out 4).trans rfl
          have a5 : wr.cell? ⟨g, 5, none⟩ = some (.int .u64 0) := (blk_cell HK.out 5).trans rfl
          have af0 : wr.frozen? ⟨g, 0, none⟩ = false := blk_frozen HK.out 0
          have af1 : wr.frozen? ⟨g, 1, none⟩ = false := blk_frozen HK.out 1
          have af2 : wr.frozen? ⟨g, 2, none⟩ = false := blk_frozen HK.out 2
          have af3 : wr.frozen? ⟨g, 3, none⟩ = false := blk_frozen HK.out 3
          have af4 : wr.frozen? ⟨g, 4, none⟩ = false := blk_frozen HK.out 4
          have af5 : wr.frozen? ⟨g, 5, none⟩ = false := blk_frozen HK.out 5
          go_wp2
          go_ret
          exact ⟨rfl, HH.out.2.2.1⟩
        | succ r =>
          have t2 : decide ((j : Int) - ((r + 1 : Nat) : Int) < (j : Int)) = true := decide_eq_true (by omega)
          have a0 : wr.cell? ⟨g, 0, none⟩ = some (.int .i64 2) := (blk_cell HK.out 0).trans rfl
          have a1 : wr.cell? ⟨g, 1, none⟩ = some (.int .i64 ((j : Int) + 1)) := (blk_cell HK.out 1).trans rfl
          have a2 : wr.cell? ⟨g, 2, none⟩ = some (.int .i64 t) := (blk_cell HK.out 2).trans rfl
          have a3 : wr.cell? ⟨g, 3, none⟩ = some (.int .i64 ((r : Int) + 1)) := (blk_cell HK.out 3).trans rfl
          have a4 : wr.cell? ⟨g, 4, none⟩ = some (.int .i64 0) := (blk_cell HK.out 4).trans rfl
          have a5 : wr.cell? ⟨g, 5, none⟩ = some (.int .u64 0) := (blk_cell HK.out 5).trans rfl
          have af0 : wr.frozen? ⟨g, 0, none⟩ = false := blk_frozen HK.out 0
          have af1 : wr.frozen? ⟨g, 1, none⟩ = false := blk_frozen HK.out 1
          have af2 : wr.frozen? ⟨g, 2, none⟩ = false := blk_frozen HK.out 2
          have af3 : wr.frozen? ⟨g, 3, none⟩ = false := blk_frozen HK.out 3
          have af4 : wr.frozen? ⟨g, 4, none⟩ = false := blk_frozen HK.out 4
          have af5 : wr.frozen? ⟨g, 5, none⟩ = false := blk_frozen HK.out 5
          go_wp2_with fail
          obtain ⟨s', t', c', e1, e2, e3, e4⟩ := take_down (k := 1000 - 2 * j - 2 * (j - r)) (md := 2) (by have := HO.out; rwa [show 1000 - 2 * j - 2 * (j - (r + 1)) = 1000 - 2 * j - 2 * (j - r) + 2 by omega] at this) HC.out HF.out hr (by omega)
          have hfit := (deskLive kd kb).fits (k := 1000 - 2 * j - 2 * (j - r) + 1) (by have := HO.out; rwa [show 1000 - 2 * j - 2 * (j - (r + 1)) = 1000 - 2 * j - 2 * (j - r) + 1 + 1 by omega] at this)
          refine (HH.out.takeE e1 hfit (by omega) (by omega) (by omega)).mono ?_
          rintro e w2 ⟨rfl, F2, hH2, hP2⟩
          have HN2 := Aside0.mk (hP2.out HK.out HN.out)
          have HNQ2 := Aside0.mk (hP2.out HQ.out HNQ.out)
          replace HK := Aside0.mk (hP2.blk HK.out HN.out)
          replace HQ := Aside0.mk (hP2.blk HQ.out HNQ.out)
          replace HN := HN2
          replace HNQ := HNQ2
          replace HH := Aside0.mk hH2
          replace HC := Aside0.mk e2
          replace HF := Aside0.mk e3
          replace HO := Aside0.mk e4
          clear e1 e2 e3 e4 hfit hH2 hP2 HN2 HNQ2 a0 af0 a1 af1 a2 af2 a3 af3 a4 af4 a5 af5
          have a0 : ∀ o, (w2.alloc o).cell? ⟨g, 0, none⟩ = some (.int .i64 2) := fun o => (blk_cell (blk_alloc HK.out o) 0).trans rfl
          have a1 : ∀ o, (w2.alloc o).cell? ⟨g, 1, none⟩ = some (.int .i64 ((j : Int) + 1)) := fun o => (blk_cell (blk_alloc HK.out o) 1).trans rfl
          have a2 : ∀ o, (w2.alloc o).cell? ⟨g, 2, none⟩ = some (.int .i64 t) := fun o => (blk_cell (blk_alloc HK.out o) 2).trans rfl
          have a3 : ∀ o, (w2.alloc o).cell? ⟨g, 3, none⟩ = some (.int .i64 ((r : Int) + 1)) := fun o => (blk_cell (blk_alloc HK.out o) 3).trans rfl
          have a4 : ∀ o, (w2.alloc o).cell? ⟨g, 4, none⟩ = some (.int .i64 0) := fun o => (blk_cell (blk_alloc HK.out o) 4).trans rfl
          have a5 : ∀ o, (w2.alloc o).cell? ⟨g, 5, none⟩ = some (.int .u64 0) := fun o => (blk_cell (blk_alloc HK.out o) 5).trans rfl
          have af0 : ∀ o, (w2.alloc o).frozen? ⟨g, 0, none⟩ = false := fun o => blk_frozen (blk_alloc HK.out o) 0
          have af1 : ∀ o, (w2.alloc o).frozen? ⟨g, 1, none⟩ = false := fun o => blk_frozen (blk_alloc HK.out o) 1
          have af2 : ∀ o, (w2.alloc o).frozen? ⟨g, 2, none⟩ = false := fun o => blk_frozen (blk_alloc HK.out o) 2
          have af3 : ∀ o, (w2.alloc o).frozen? ⟨g, 3, none⟩ = false := fun o => blk_frozen (blk_alloc HK.out o) 3
          have af4 : ∀ o, (w2.alloc o).frozen? ⟨g, 4, none⟩ = false := fun o => blk_frozen (blk_alloc HK.out o) 4
          have af5 : ∀ o, (w2.alloc o).frozen? ⟨g, 5, none⟩ = false := fun o => blk_frozen (blk_alloc HK.out o) 5
          have b0 : ∀ o, (w2.alloc o).cell? ⟨q, r + 1, none⟩ = some (.bool false) := fun o => (blk_cell (blk_alloc HQ.out o) (r + 1)).trans (HS.out.at_ hr)
          have bf0 : ∀ o, (w2.alloc o).frozen? ⟨q, r + 1, none⟩ = false := fun o => blk_frozen (blk_alloc HQ.out o) (r + 1)
          have hq1 : ¬ q = w2.heap.size := by have := blk_lt HQ.out; omega
          have hq2 : ¬ w2.heap.size = q := by have := blk_lt HQ.out; omega
          have hq3 : ¬ g = q := HGN.out
          have hq4 : ¬ q = g := Ne.symm HGN.out
          have hrr : ((r : Int) + 1).toNat = r + 1 := by omega
          go_wp2
          go_roundw
          case measure => simp only [intOf]; omega
          case rel => exact ⟨r, s', t', c', F2, _, by omega, by congr 1; omega, ⟨put6 (blk_far (blk_alloc HK.out _) HGN.out _) _ _ _ _ _ _⟩, ⟨far6 (blk_set (blk_alloc HQ.out _) (r + 1) (.bool true)) (Ne.symm HGN.out) _ _ _ _ _ _⟩, ⟨HS.out.set hr⟩,
            ⟨((HH.out.below (below_alloc (Below.refl _ _) _)).set (p := ⟨q, r + 1, none⟩) HNQ.out HGQ.out _).set6 HN.out HG.out _ _ _ _ _ _⟩, HN, HNQ, HC, HF, HO⟩
end Go.Proofs.Ytonbipaajhokfaa
/-
  Plain: a desk whose calls are used up.
-/
set_option linter.unusedVariables false
set_option linter.unusedSimpArgs false
namespace Go.Proofs.Ytonbipaajhokfaa
open Go.RowKit Go.Proofs.YtonbipaajhokfaaW.PrintWords Go.Proofs.YtonbipaajhokfaaW.PrintLast Go.Proofs.YtonbipaajhokfaaW.PrintMore

theorem give_down2 {kd kb k j : Nat} {p : Int} {s : Desk} {t : Int} {c : List (Int × List Int)} {md : Int} (ho : (deskLive kd kb).ok (k + 2) s) (hc : Chain ((deskLive kd kb).look s) t c) (hf : flat c = downs j) (hj : (j : Int) + 1 < p) (hp : p ≤ 4096) :
    ∃ s' t' c', (deskShop kd kb).give s ⟨md, p, t, j, 0, 0⟩ ((j : Int) + 1) = (s', ⟨md, p, t', (j : Int) + 1, 0, 0⟩, 0) ∧ Chain ((deskLive kd kb).look s') t' c' ∧ flat c' = downs (j + 1) ∧ (deskLive kd kb).ok k s' := by
  obtain ⟨s', t', c', h1, h2, h3, h4⟩ := (deskLive kd kb).give (hd := ⟨md, p, t, j, 0, 0⟩) (n := (j : Int) + 1) ho hc (by rw [hf, downs_length]) (by omega) hj hp (by show (j : Int) < p - 1; omega) (by rw [hf, mem_downs]; omega) (by rw [hf]; exact downs_nodup j)
  exact ⟨s', t', c', h1, h2, by rw [h3, hf]; rfl, h4⟩
theorem take_down2 {kd kb k j : Nat} {p : Int} {s : Desk} {t : Int} {c : List (Int × List Int)} {md : Int} (ho : (deskLive kd kb).ok (k + 2) s) (hc : Chain ((deskLive kd kb).look s) t c) (hf : flat c = downs (j + 1)) (hj : (j : Int) + 1 < p) (hp : p ≤ 4096) :
    ∃ s' t' c', (deskShop kd kb).take s ⟨md, p, t, (j : Int) + 1, 0, 0⟩ = (s', (j : Int) + 1, ⟨md, p, t', j, 0, 0⟩, 0) ∧ Chain ((deskLive kd kb).look s') t' c' ∧ flat c' = downs j ∧ (deskLive kd kb).ok k s' := by
  obtain ⟨s', t', c', h1, h2, h3, h4⟩ := (deskLive kd kb).take (hd := ⟨md, p, t, (j : Int) + 1, 0, 0⟩) (x := (j : Int) + 1) (st := downs j) ho hc hf (by rw [hf, downs_length]; simp) (by
    rw [hf]; intro y hy; rw [mem_downs] at hy; show 1 ≤ y ∧ y < p; omega) (by rw [hf]; exact downs_nodup (j + 1))
  refine ⟨s', t', c', ?_, h2, h3, h4⟩
  rw [h1]
  simp

def Desk.at_ (s : Desk) (left : Int) : Desk := ⟨s.N, s.D, left⟩
theorem trunk0 (kd kb : Nat) (s : Desk) (t : Int) : (deskShop kd kb).trunk (s.at_ 0) t = (s.at_ 0, 0, [], 11) := by
  have h : (deskShop kd kb).get (s.at_ 0) t = (s.at_ 0, ⟨#[]⟩, 11) := by show Desk.get (s.at_ 0) t = _; unfold Desk.get; exact if_pos rfl
  unfold Shop.trunk
  rw [h]
  dsimp only
  rw [if_pos (by decide)]
theorem trunk1 (kd kb : Nat) (s : Desk) {t next : Int} {l : List Int} (he : encOk next l = true) (hl : getB s.N s.D t = bs (trunkPage next l)) : (deskShop kd kb).trunk (s.at_ 1) t = (s.at_ 0, next, l, 0) := by
  have h : (deskShop kd kb).get (s.at_ 1) t = (s.at_ 0, bs (trunkPage next l), 0) := by
    show Desk.get (s.at_ 1) t = _
    unfold Desk.get Desk.at_
    rw [if_neg (by show ¬ (1 : Int) = 0; decide)]
    show (_, getB s.N s.D t, _) = _
    rw [hl]
    have e : wrap64 ((1 : Int) - 1) = 0 := by unfold wrap64; omega
    dsimp only
    rw [e]
  obtain ⟨d1, d2, d3⟩ := dec_page he
  unfold Shop.trunk
  rw [h]
  dsimp only
  rw [bs_list, d1, d2, d3, if_neg (by decide), if_neg (by decide)]
theorem lay0 (kd kb : Nat) (s : Desk) {t next : Int} {l : List Int} (he : encOk next l = true) : (deskShop kd kb).lay (s.at_ 0) t next l = (s.at_ 0, 11) := by
  unfold Shop.lay
  rw [if_pos he]
  show Desk.put (s.at_ 0) t (bs (trunkPage next l)) = _
  unfold Desk.put
  exact if_pos rfl

/-- What Give answers where the desk is used up ahead of its second call. -/
theorem give_used {kd kb j : Nat} {p : Int} {s : Desk} {t : Int} {c : List (Int × List Int)} {md : Int} (hc : Chain ((deskLive kd kb).look s) t c) (hf : flat c = downs j) (h1 : 1 ≤ j) (hj : (j : Int) + 1 < p) (hp : p ≤ 4096) (left : Int) (hl : left = 0 ∨ left = 1) :
    (deskShop kd kb).give (s.at_ left) ⟨md, p, t, j, 0, 0⟩ ((j : Int) + 1) = (s.at_ 0, ⟨0, 0, 0, 0, 0, 0⟩, 11) := by
  have ht : t ≠ 0 := by
    rcases hc.top with h | h
    · rw [h.2] at hf; have := congrArg List.length hf; rw [downs_length] at this; simp [flat] at this; omega
    · omega
  unfold Shop.give
  dsimp only
  rw [if_neg (by omega), if_neg (by omega), if_neg ht]
  rcases hl with hl | hl
  · subst hl
    rw [trunk0]
    dsimp only
    rw [if_pos (by decide)]
    rfl
  · subst hl
    cases c with
    | nil => exact absurd hc ht
    | cons a r =>
      obtain ⟨q, l⟩ := a
      obtain ⟨g1, g2, g3, next, g4, g5, g6⟩ := hc
      subst g1
      rw [trunk1 kd kb s g4 g5]
      dsimp only
      rw [if_neg (by decide)]
      obtain ⟨q1, q2, q3⟩ := encOk_parts.1 g4
      split
      · rw [lay0 kd kb s (encOk_parts.2 ⟨q1, by simp; omega, fun z hz => by
          simp at hz
          rcases hz with hz | hz
          · exact q3 z hz
          · omega⟩)]
        unfold gaveOf
        dsimp only
        rw [if_pos (by decide)]
        rfl
      · rw [lay0 kd kb s (encOk_parts.2 ⟨Or.inr ⟨g2, g3⟩, by simp, by simp⟩)]
        unfold gaveOf
        dsimp only
        rw [if_pos (by decide)]
        rfl

/-- What Take answers at a desk without a call left. -/
theorem take_used0 {kd kb j : Nat} {p : Int} {s : Desk} {t : Int} {md : Int} (h1 : 1 ≤ j) : (deskShop kd kb).take (s.at_ 0) ⟨md, p, t, j, 0, 0⟩ = (s.at_ 0, 0, ⟨0, 0, 0, 0, 0, 0⟩, 11) := by
  unfold Shop.take
  dsimp only
  rw [if_neg (by omega), trunk0]
  dsimp only
  rw [if_pos (by decide)]
  rfl
/-- .. with one. -/
theorem take_used1 {kd kb j : Nat} {p : Int} {s : Desk} {t : Int} {c : List (Int × List Int)} {md : Int} (hc : Chain ((deskLive kd kb).look s) t c) (hf : flat c = downs (j + 1)) (hj : (j : Int) + 1 < p) :
    (deskShop kd kb).take (s.at_ 1) ⟨md, p, t, (j : Int) + 1, 0, 0⟩ = (s.at_ 0, 0, ⟨0, 0, 0, 0, 0, 0⟩, 11) ∨ ∃ t', (deskShop kd kb).take (s.at_ 1) ⟨md, p, t, (j : Int) + 1, 0, 0⟩ = (s.at_ 0, (j : Int) + 1, ⟨md, p, t', j, 0, 0⟩, 0) := by
  have hin : ∀ y ∈ flat c, 1 ≤ y ∧ y < p := by rw [hf]; intro y hy; rw [mem_downs] at hy; omega
  have hlen : (flat c).length = j + 1 := by rw [hf, downs_length]
  cases c with
  | nil => simp [flat, downs] at hf
  | cons a r =>
    obtain ⟨q, l⟩ := a
    obtain ⟨g1, g2, g3, next, g4, g5, g6⟩ := hc
    subst g1
    have hnx : next < p := by
      rcases g6.top with h7 | h7
      · have := hin t (by simp [flat]); omega
      · exact (hin next (by simp [flat, h7.2.2.1])).2
    have hl2 : (flat ((t, l) :: r)).length = l.length + 1 + (flat r).length := by simp [flat]; omega
    obtain ⟨q1, q2, q3⟩ := encOk_parts.1 g4
    unfold Shop.take
    dsimp only
    rw [if_neg (by omega), trunk1 kd kb s g4 g5]
    dsimp only
    rw [if_neg (by decide), if_neg (by omega)]
    rcases List.eq_nil_or_concat l with hl | ⟨l0, y, hl⟩
    · right
      subst hl
      rw [if_pos rfl]
      have e1 : ((next == 0) = ((j : Int) + 1 == 1)) := by
        rcases g6.top with h7 | h7
        · have : j = 0 := by
            have h10 : (flat r).length = 0 := by rw [h7.2]; rfl
            simp only [List.length_nil] at hl2
            omega
          simp [h7.1, this]
        · have h8 : (next == 0) = false := by simp; omega
          have h9 : ((j : Int) + 1 == 1) = false := by
            have : 0 < (flat r).length := List.length_pos_of_mem h7.2.2.1
            simp at hl2
            simp; omega
          rw [h8, h9]
      rw [if_pos e1]
      simp only [flat, List.reverse_nil, List.nil_append, downs, List.cons.injEq] at hf
      refine ⟨next, ?_⟩
      rw [hf.1]
      simp
    · left
      rw [List.concat_eq_append] at hl
      subst hl
      rw [if_neg (by simp)]
      have e2 : (l0 ++ [y]).getLastD 0 = y := by simp [List.getLastD_eq_getLast?]
      rw [e2, List.dropLast_concat]
      have hy := hin y (by simp [flat])
      rw [if_neg (by omega), if_neg (by simp at hl2; omega)]
      rw [lay0 kd kb s (encOk_parts.2 ⟨q1, by simp at q2; omega, fun z hz => q3 z (by simp [hz])⟩)]
      dsimp only
      rw [if_pos (by decide)]
      rfl
theorem at_ok2 {kd kb k : Nat} {s : Desk} (h : (deskLive kd kb).ok (k + 2) s) : (deskLive kd kb).ok 2 (s.at_ 2) :=
  ⟨h.1, by have := h.2.1; show s.N.length + 2 ≤ _; omega, Or.inr ⟨by show (0 : Int) ≤ 2; decide, by show ((2 : Nat) : Int) ≤ 2; decide, by show (2 : Int) < 1048577; decide⟩⟩
theorem at_fits {kd kb k : Nat} {s : Desk} (h : (deskLive kd kb).ok (k + 1) s) (left : Int) : (deskShop kd kb).fits (s.at_ left) := by
  show s.N.length < 1048576
  have := h.2.1
  omega
/-- d.left = left. -/
theorem Hold.left {kd kb B : Nat} {w0 w : World} {s : Desk} {F : Nat → Prop} (h : Hold (deskShop kd kb) B w0 w s F) (left : Int) : Hold (deskShop kd kb) B w0 (w.setCell ⟨kd, 1, none⟩ (.int .i64 left)) (s.at_ left) F := by
  obtain ⟨⟨h1, h2, h3⟩, h4, h5, h6⟩ := h
  exact ⟨⟨h1, blk_put h2 1 _ rfl, h3.setCell h2 (by decide) (by decide) (by decide) 1 _⟩, h4, h5.setCell (h4 kd h1) _, by simpa using h6⟩
theorem Hold.desk {kd kb B : Nat} {w0 w : World} {s : Desk} {F : Nat → Prop} (h : Hold (deskShop kd kb) B w0 w s F) : F kd ∧ w.heap[kd]? = some (.cells #[.pointer (some ⟨kb, 0, none⟩), .int .i64 s.left] 47 (0, 0)) := ⟨h.1.1, h.1.2.1⟩
end Go.Proofs.Ytonbipaajhokfaa
/-
  Walk: SpareFails.
-/
set_option linter.unusedVariables false
set_option linter.unusedSimpArgs false
namespace Go.Proofs.Ytonbipaajhokfaa
open Go.RowKit Go.Proofs.YtonbipaajhokfaaW.PrintWords Go.Proofs.YtonbipaajhokfaaW.PrintLast Go.Proofs.YtonbipaajhokfaaW.PrintMore


set_option maxHeartbeats 8000000 in
set_option maxRecDepth 100000 in
theorem spareFails_calls (n0 l0 : Int) (gv : Bool) (w : World) : Calls Try.prog 7 #[.int .i64 n0, .int .i64 l0, .bool gv] w fun e w' => e = .returned (.bool true) ∧ Below w.heap.size w w' := by
  have hu35 := Try.underlying35
  obtain ⟨n, hn⟩ : ∃ n : Nat, (n : Int) = 1 + IntKind.u64.wrap n0 % 150 := ⟨(1 + IntKind.u64.wrap n0 % 150).toNat, by rw [IntKind.wrap_u64]; omega⟩
  have hn0 : 1 ≤ n ∧ n < 200 := by rw [IntKind.wrap_u64] at hn; omega
  obtain ⟨hn3, hn2⟩ := hn0
  obtain ⟨lf, hlf⟩ : ∃ lf : Int, lf = IntKind.u64.wrap l0 % 3 := ⟨_, rfl⟩
  have HL3 : Aside0 (lf = 0 ∨ lf = 1 ∨ lf = 2) := ⟨by rw [IntKind.wrap_u64] at hlf; omega⟩
  go_enter Try.func7, Try.ntmps7
  go_wp2_with (go_at_call 11; refine (awake_calls _).mono ?_; rintro e w0 ⟨rfl, hB0⟩)
  have hw1 : wrap64 ((IntKind.u64.wrap n0).tmod 150) = (n : Int) - 1 := by
    rw [hn, IntKind.wrap_u64, Int.tmod_eq_emod_of_nonneg (by omega)]
    unfold wrap64
    omega
  have hw2 : wrap64 ((IntKind.u64.wrap l0).tmod 3) = lf := by
    rw [hlf, IntKind.wrap_u64, Int.tmod_eq_emod_of_nonneg (by omega)]
    unfold wrap64
    omega
  have hw3 : wrap64 (1 + ((n : Int) - 1)) = (n : Int) := by unfold wrap64; omega
  rw [hw1, hw2, hw3]
  refine (fresh_calls _).mono ?_
  rintro e w1 ⟨kd, kb, rfl, F, hA, hF, hB⟩
  have HH0 := Aside0.mk (show Hold (deskShop kd kb) w.heap.size w w1 Desk.new F from ⟨hA, fun k hk => Nat.le_trans hB0.size (hF k hk), hB0.trans (hB.mono hB0.size), Nat.le_trans hB0.size hB.size⟩)
  clear hA hF hB hB0 hw1 hw2 hw3 hn hlf
  have hn1 : wrap64 ((n : Int) + 2) = (n : Int) + 2 := by unfold wrap64; omega
  go_wp2_with fail
  obtain ⟨g, hg⟩ : ∃ g, g = w1.heap.size := ⟨_, rfl⟩
  obtain ⟨wh, hwh⟩ : ∃ wh, wh = w1.alloc (.cells #[.int .i64 1, .int .i64 ((n : Int) + 2), .int .i64 0, .int .i64 0, .int .i64 0, .int .u64 0] 35) := ⟨_, rfl⟩
  have HK := Aside0.mk (show wh.heap[g]? = some (.cells #[.int .i64 1, .int .i64 ((n : Int) + 2), .int .i64 0, .int .i64 0, .int .i64 0, .int .u64 0] 35 (0, 0)) by rw [hwh, hg]; exact blk_new w1 _)
  have HH := Aside0.mk (show Hold (deskShop kd kb) w.heap.size w wh Desk.new F by rw [hwh]; exact HH0.out.below (below_alloc (Below.refl _ _) _))
  have HN := Aside0.mk (show ¬ F g by rw [hg]; exact HH0.out.fresh)
  have HG := Aside0.mk (show w.heap.size ≤ g by rw [hg]; exact HH0.out.2.2.2)
  rw [← hwh, ← hg]
  clear hwh hg HH0
  go_loopw [9] (fun i wr => ∃ (j : Nat) (s : Desk) (t : Int) (c : List (Int × List Int)) (F : Nat → Prop), j ≤ n ∧ i = .int .i64 ((j : Int) + 1) ∧ Aside0 (wr.heap[g]? = some (.cells #[.int .i64 1, .int .i64 ((n : Int) + 2), .int .i64 t, .int .i64 j, .int .i64 0, .int .u64 0] 35 (0, 0))) ∧ Aside0 (Hold (deskShop kd kb) w.heap.size w wr s F) ∧ Aside0 (¬ F g) ∧
      Aside0 (Chain ((deskLive kd kb).look s) t c) ∧ Aside0 (flat c = downs j) ∧ Aside0 ((deskLive kd kb).ok (1000 - 2 * j) s)) (fun i _ => n + 1 - (intOf i).toNat)
  case atStart => exact ⟨0, Desk.new, 0, [], F, Nat.zero_le _, rfl, HK, HH, HN, ⟨rfl⟩, ⟨rfl⟩, ⟨desk_new_ok2 kd kb⟩⟩
  case round =>
    clear HK HH HN
    obtain ⟨j, s, t, c, F1, hj, rfl, HK, HH, HN, HC, HF, HO⟩ := hrel
    have hj1 : wrap64 ((j : Int) + 1 + 1) = (j : Int) + 1 + 1 := by unfold wrap64; omega
    by_cases hlt : j < n
    · have t1 : decide ((j : Int) + 1 ≤ (n : Int)) = true := decide_eq_true (by omega)
      have a0 : wr.cell? ⟨g, 0, none⟩ = some (.int .i64 1) := (blk_cell HK.out 0).trans rfl
      have a1 : wr.cell? ⟨g, 1, none⟩ = some (.int .i64 ((n : Int) + 2)) := (blk_cell HK.out 1).trans rfl
      have a2 : wr.cell? ⟨g, 2, none⟩ = some (.int .i64 t) := (blk_cell HK.out 2).trans rfl
      have a3 : wr.cell? ⟨g, 3, none⟩ = some (.int .i64 j) := (blk_cell HK.out 3).trans rfl
      have a4 : wr.cell? ⟨g, 4, none⟩ = some (.int .i64 0) := (blk_cell HK.out 4).trans rfl
      have a5 : wr.cell? ⟨g, 5, none⟩ = some (.int .u64 0) := (blk_cell HK.out 5).trans rfl
      have af0 : wr.frozen? ⟨g, 0, none⟩ = false := blk_frozen HK.out 0
      have af1 : wr.frozen? ⟨g, 1, none⟩ = false := blk_frozen HK.out 1
      have af2 : wr.frozen? ⟨g, 2, none⟩ = false := blk_frozen HK.out 2
      have af3 : wr.frozen? ⟨g, 3, none⟩ = false := blk_frozen HK.out 3
      have af4 : wr.frozen? ⟨g, 4, none⟩ = false := blk_frozen HK.out 4
      have af5 : wr.frozen? ⟨g, 5, none⟩ = false := blk_frozen HK.out 5
      go_wp2_with fail
      obtain ⟨s', t', c', e1, e2, e3, e4⟩ := give_down2 (k := 1000 - 2 * (j + 1)) (md := 1) (p := (n : Int) + 2) (by have := HO.out; rwa [show 1000 - 2 * j = 1000 - 2 * (j + 1) + 2 by omega] at this) HC.out HF.out (by omega) (by omega)
      have hfit := (deskLive kd kb).fits (k := 999 - 2 * j) (by have := HO.out; rwa [show 1000 - 2 * j = 999 - 2 * j + 1 by omega] at this)
      refine (HH.out.giveE e1 hfit (by omega) (by omega) (by omega)).mono ?_
      rintro e w2 ⟨rfl, F2, hH2, hP2⟩
      have HN2 := Aside0.mk (hP2.out HK.out HN.out)
      replace HK := Aside0.mk (hP2.blk HK.out HN.out)
      replace HN := HN2
      replace HH := Aside0.mk hH2
      replace HC := Aside0.mk e2
      replace HF := Aside0.mk e3
      replace HO := Aside0.mk e4
      clear e1 e2 e3 e4 hfit hH2 hP2 HN2 a0 af0 a1 af1 a2 af2 a3 af3 a4 af4 a5 af5
      have a0 : ∀ o, (w2.alloc o).cell? ⟨g, 0, none⟩ = some (.int .i64 1) := fun o => (blk_cell (blk_alloc HK.out o) 0).trans rfl
      have a1 : ∀ o, (w2.alloc o).cell? ⟨g, 1, none⟩ = some (.int .i64 ((n : Int) + 2)) := fun o => (blk_cell (blk_alloc HK.out o) 1).trans rfl
      have a2 : ∀ o, (w2.alloc o).cell? ⟨g, 2, none⟩ = some (.int .i64 t) := fun o => (blk_cell (blk_alloc HK.out o) 2).trans rfl
      have a3 : ∀ o, (w2.alloc o).cell? ⟨g, 3, none⟩ = some (.int .i64 j) := fun o => (blk_cell (blk_alloc HK.out o) 3).trans rfl
      have a4 : ∀ o, (w2.alloc o).cell? ⟨g, 4, none⟩ = some (.int .i64 0) := fun o => (blk_cell (blk_alloc HK.out o) 4).trans rfl
      have a5 : ∀ o, (w2.alloc o).cell? ⟨g, 5, none⟩ = some (.int .u64 0) := fun o => (blk_cell (blk_alloc HK.out o) 5).trans rfl
      have af0 : ∀ o, (w2.alloc o).frozen? ⟨g, 0, none⟩ = false := fun o => blk_frozen (blk_alloc HK.out o) 0
      have af1 : ∀ o, (w2.alloc o).frozen? ⟨g, 1, none⟩ = false := fun o => blk_frozen (blk_alloc HK.out o) 1
      have af2 : ∀ o, (w2.alloc o).frozen? ⟨g, 2, none⟩ = false := fun o => blk_frozen (blk_alloc HK.out o) 2
      have af3 : ∀ o, (w2.alloc o).frozen? ⟨g, 3, none⟩ = false := fun o => blk_frozen (blk_alloc HK.out o) 3
      have af4 : ∀ o, (w2.alloc o).frozen? ⟨g, 4, none⟩ = false := fun o => blk_frozen (blk_alloc HK.out o) 4
      have af5 : ∀ o, (w2.alloc o).frozen? ⟨g, 5, none⟩ = false := fun o => blk_frozen (blk_alloc HK.out o) 5
      go_wp2
      go_roundw
      case measure => show n + 1 - _ < n + 1 - _; simp only [intOf]; omega
      case rel => exact ⟨j + 1, s', t', c', F2, by omega, rfl, ⟨put6 (blk_alloc HK.out _) _ _ _ _ _ _⟩, ⟨(HH.out.below (below_alloc (Below.refl _ _) _)).set6 HN.out HG.out _ _ _ _ _ _⟩, HN, HC, HF, HO⟩
    · have t1 : decide ((j : Int) + 1 ≤ (n : Int)) = false := decide_eq_false (by omega)
      obtain rfl : j = n := by omega
      clear hj hlt
      have hD := HH.out.desk
      have hdc : wr.cell? ⟨kd, 1, none⟩ = some (.int .i64 s.left) := (blk_cell hD.2 1).trans rfl
      have hdf : wr.frozen? ⟨kd, 1, none⟩ = false := blk_frozen hD.2 1
      have hgk : ¬ g = kd := fun e => HN.out (e ▸ hD.1)
      have hkg : ¬ kd = g := fun e => HN.out (e ▸ hD.1)
      have HFIT := Aside0.mk (fun lf => at_fits (k := 999 - 2 * j) (kd := kd) (kb := kb) (s := s) (by have := HO.out; rwa [show 1000 - 2 * j = 999 - 2 * j + 1 by omega] at this) lf)
      have HO2 := Aside0.mk (at_ok2 (k := 998 - 2 * j) (kd := kd) (kb := kb) (s := s) (by have := HO.out; rwa [show 1000 - 2 * j = 998 - 2 * j + 2 by omega] at this))
      obtain ⟨i, hi⟩ : ∃ i, j = i + 1 := ⟨j - 1, by omega⟩
      have HI := Aside0.mk hi
      clear hD HO hi
      have hj2 : wrap64 ((j : Int) - 1) = (j : Int) - 1 := by unfold wrap64; omega
      have a0 : wr.cell? ⟨g, 0, none⟩ = some (.int .i64 1) := (blk_cell HK.out 0).trans rfl
      have a1 : wr.cell? ⟨g, 1, none⟩ = some (.int .i64 ((j : Int) + 2)) := (blk_cell HK.out 1).trans rfl
      have a2 : wr.cell? ⟨g, 2, none⟩ = some (.int .i64 t) := (blk_cell HK.out 2).trans rfl
      have a3 : wr.cell? ⟨g, 3, none⟩ = some (.int .i64 j) := (blk_cell HK.out 3).trans rfl
      have a4 : wr.cell? ⟨g, 4, none⟩ = some (.int .i64 0) := (blk_cell HK.out 4).trans rfl
      have a5 : wr.cell? ⟨g, 5, none⟩ = some (.int .u64 0) := (blk_cell HK.out 5).trans rfl
      have af0 : wr.frozen? ⟨g, 0, none⟩ = false := blk_frozen HK.out 0
      have af1 : wr.frozen? ⟨g, 1, none⟩ = false := blk_frozen HK.out 1
      have af2 : wr.frozen? ⟨g, 2, none⟩ = false := blk_frozen HK.out 2
      have af3 : wr.frozen? ⟨g, 3, none⟩ = false := blk_frozen HK.out 3
      have af4 : wr.frozen? ⟨g, 4, none⟩ = false := blk_frozen HK.out 4
      have af5 : wr.frozen? ⟨g, 5, none⟩ = false := blk_frozen HK.out 5
      have HQ : Aside0 (gv = true ∨ gv = false) := ⟨by cases gv; exact Or.inr rfl; exact Or.inl rfl⟩
      rcases HQ.out with hgv | hgv
      · subst hgv
        clear HQ
        rcases HL3.out with hl | hl | hl
        · subst hl
          clear HL3
          go_wp2_with fail
          refine ((HH.out.left 0).giveE (give_used (kd := kd) (kb := kb) (p := (j : Int) + 2) HC.out HF.out hn3 (by omega) (by omega) 0 (Or.inl rfl)) (HFIT.out 0) (by omega) (by omega) (by omega)).mono ?_
          rintro e w2 ⟨rfl, F2, hH2, hP2⟩
          have HH2 := Aside0.mk hH2
          clear hH2 hP2 HN HK HC HF a0 af0 a1 af1 a2 af2 a3 af3 a4 af4 a5 af5
          go_wp2
          go_ret
          exact ⟨rfl, HH2.out.2.2.1.trans (below_alloc (Below.refl _ _) _ |>.mono HH2.out.2.2.2)⟩
        · subst hl
          clear HL3
          go_wp2_with fail
          refine ((HH.out.left 1).giveE (give_used (kd := kd) (kb := kb) (p := (j : Int) + 2) HC.out HF.out hn3 (by omega) (by omega) 1 (Or.inr rfl)) (HFIT.out 1) (by omega) (by omega) (by omega)).mono ?_
          rintro e w2 ⟨rfl, F2, hH2, hP2⟩
          have HH2 := Aside0.mk hH2
          clear hH2 hP2 HN HK HC HF a0 af0 a1 af1 a2 af2 a3 af3 a4 af4 a5 af5
          go_wp2
          go_ret
          exact ⟨rfl, HH2.out.2.2.1.trans (below_alloc (Below.refl _ _) _ |>.mono HH2.out.2.2.2)⟩
        · subst hl
          clear HL3
          obtain ⟨s', t', c', e1, e2, e3, e4⟩ := give_down2 (k := 0) (md := 1) (p := (j : Int) + 2) HO2.out (show Chain ((deskLive kd kb).look (s.at_ 2)) t c from HC.out) HF.out (by omega) (by omega)
          have HE1 := Aside0.mk e1
          clear e1 e2 e3 e4
          go_wp2_with fail
          refine ((HH.out.left 2).giveE HE1.out (HFIT.out 2) (by omega) (by omega) (by omega)).mono ?_
          rintro e w2 ⟨rfl, F2, hH2, hP2⟩
          have HH2 := Aside0.mk hH2
          clear hH2 hP2 HN HK HC HF a0 af0 a1 af1 a2 af2 a3 af3 a4 af4 a5 af5
          go_wp2
          go_ret
          exact ⟨rfl, HH2.out.2.2.1.trans (below_alloc (Below.refl _ _) _ |>.mono HH2.out.2.2.2)⟩
      · subst hgv
        clear HQ
        rcases HL3.out with hl | hl | hl
        · subst hl
          clear HL3
          go_wp2_with fail
          refine ((HH.out.left 0).takeE (take_used0 hn3) (HFIT.out 0) (by omega) (by omega) (by omega)).mono ?_
          rintro e w2 ⟨rfl, F2, hH2, hP2⟩
          have HH2 := Aside0.mk hH2
          clear hH2 hP2 HN HK HC HF a0 af0 a1 af1 a2 af2 a3 af3 a4 af4 a5 af5
          go_wp2
          go_ret
          exact ⟨rfl, HH2.out.2.2.1.trans (below_alloc (Below.refl _ _) _ |>.mono HH2.out.2.2.2)⟩
        · subst hl
          clear HL3
          have HU := take_used1 (kd := kd) (kb := kb) (md := 1) (p := (j : Int) + 2) HC.out (by rw [HF.out, HI.out]) (by have := HI.out; omega)
          rw [show (i : Int) + 1 = (j : Int) by have := HI.out; omega] at HU
          rcases HU with e1 | ⟨t', e1⟩
          · have HE1 := Aside0.mk e1
            clear e1
            go_wp2_with fail
            refine ((HH.out.left 1).takeE HE1.out (HFIT.out 1) (by omega) (by omega) (by omega)).mono ?_
            rintro e w2 ⟨rfl, F2, hH2, hP2⟩
            have HH2 := Aside0.mk hH2
            clear hH2 hP2 HN HK HC HF a0 af0 a1 af1 a2 af2 a3 af3 a4 af4 a5 af5
            go_wp2
            go_ret
            exact ⟨rfl, HH2.out.2.2.1.trans (below_alloc (Below.refl _ _) _ |>.mono HH2.out.2.2.2)⟩
          · have HE1 := Aside0.mk e1
            clear e1
            go_wp2_with fail
            refine ((HH.out.left 1).takeE HE1.out (HFIT.out 1) (by omega) (by omega) (by omega)).mono ?_
            rintro e w2 ⟨rfl, F2, hH2, hP2⟩
            have HH2 := Aside0.mk hH2
            have hij : (i : Int) = (j : Int) - 1 := by have := HI.out; omega
            clear hH2 hP2 HN HK HC HF a0 af0 a1 af1 a2 af2 a3 af3 a4 af4 a5 af5
            rw [hij]
            clear hij
            go_wp2
            go_ret
            exact ⟨rfl, HH2.out.2.2.1.trans (below_alloc (Below.refl _ _) _ |>.mono HH2.out.2.2.2)⟩
        · subst hl
          clear HL3
          obtain ⟨s', t', c', e1, e2, e3, e4⟩ := take_down2 (k := 0) (j := i) (md := 1) (p := (j : Int) + 2) HO2.out (show Chain ((deskLive kd kb).look (s.at_ 2)) t c from HC.out) (by rw [HF.out, HI.out]) (by have := HI.out; omega) (by omega)
          rw [show (i : Int) + 1 = (j : Int) by have := HI.out; omega] at e1
          have HE1 := Aside0.mk e1
          clear e1 e2 e3 e4
          go_wp2_with fail
          refine ((HH.out.left 2).takeE HE1.out (HFIT.out 2) (by omega) (by omega) (by omega)).mono ?_
          rintro e w2 ⟨rfl, F2, hH2, hP2⟩
          have HH2 := Aside0.mk hH2
          have hij : (i : Int) = (j : Int) - 1 := by have := HI.out; omega
          clear hH2 hP2 HN HK HC HF a0 af0 a1 af1 a2 af2 a3 af3 a4 af4 a5 af5
          rw [hij]
          clear hij
          go_wp2
          go_ret
          exact ⟨rfl, HH2.out.2.2.1.trans (below_alloc (Below.refl _ _) _ |>.mono HH2.out.2.2.2)⟩
end Go.Proofs.Ytonbipaajhokfaa
/-
  Plain: pages that are used, pages that are free.
-/
set_option linter.unusedVariables false
set_option linter.unusedSimpArgs false
namespace Go.Proofs.Ytonbipaajhokfaa
open Go.RowKit Go.Proofs.YtonbipaajhokfaaW.PrintWords Go.Proofs.YtonbipaajhokfaaW.PrintLast Go.Proofs.YtonbipaajhokfaaW.PrintMore

def Inv (used st : List Int) (p : Int) : Prop := p = 1 + used.length + st.length ∧ (used ++ st).Nodup ∧ ∀ y ∈ used ++ st, 1 ≤ y ∧ y < p
theorem Inv.start : Inv [] [] 1 := ⟨rfl, by simp, by simp⟩
theorem split_at (l : List Int) (k : Nat) (h : k < l.length) : l = l.take k ++ l.getD k 0 :: l.drop (k + 1) := by
  have e : l.getD k 0 = l[k] := by simp [List.getD_eq_getElem?_getD, List.getElem?_eq_getElem h]
  rw [e, ← List.drop_eq_getElem_cons h, List.take_append_drop]
theorem Inv.perm {u u' st st' : List Int} {p : Int} (h : Inv u st p) (hp : (u' ++ st').Perm (u ++ st)) : Inv u' st' p := by
  obtain ⟨h1, h2, h3⟩ := h
  have hl := hp.length_eq
  simp only [List.length_append] at hl
  exact ⟨by omega, hp.nodup_iff.2 h2, fun y hy => h3 y (hp.mem_iff.1 hy)⟩
theorem Inv.give {u st : List Int} {p : Int} (h : Inv u st p) {k : Nat} (hk : k < u.length) : Inv (u.take k ++ u.drop (k + 1)) (u.getD k 0 :: st) p := by
  refine h.perm ?_
  have e := split_at u k hk
  have h1 : (u.take k ++ u.drop (k + 1) ++ u.getD k 0 :: st).Perm (u.getD k 0 :: (u.take k ++ u.drop (k + 1) ++ st)) := List.perm_middle
  have h2 : (u.take k ++ u.getD k 0 :: u.drop (k + 1)).Perm (u.getD k 0 :: (u.take k ++ u.drop (k + 1))) := List.perm_middle
  rw [← e] at h2
  exact h1.trans (h2.symm.append_right st)
theorem Inv.take {u st : List Int} {p x : Int} (h : Inv u (x :: st) p) : Inv (u ++ [x]) st p := h.perm (by simp)
theorem Inv.new {u : List Int} {p : Int} (h : Inv u [] p) : Inv (u ++ [p]) [] (p + 1) := by
  obtain ⟨h1, h2, h3⟩ := h
  simp only [List.append_nil, List.length_nil] at h1 h2 h3
  refine ⟨by simp; omega, ?_, ?_⟩
  · rw [List.append_nil, List.nodup_append]
    refine ⟨h2, by simp, fun a ha b hb => ?_⟩
    simp at hb
    subst hb
    have := h3 a ha
    omega
  · intro y hy
    simp at hy
    rcases hy with hy | hy
    · have := h3 y hy; omega
    · omega
theorem Inv.at_ {u st : List Int} {p : Int} (h : Inv u st p) {k : Nat} (hk : k < u.length) : 1 ≤ u.getD k 0 ∧ u.getD k 0 < p ∧ u.getD k 0 ∉ st := by
  have hm : u.getD k 0 ∈ u := by
    rw [List.getD_eq_getElem?_getD, List.getElem?_eq_getElem hk]
    exact List.getElem_mem hk
  have h1 := h.2.2 _ (List.mem_append_left st hm)
  refine ⟨h1.1, h1.2, fun hs => ?_⟩
  exact (List.nodup_append.1 h.2.1).2.2 _ hm _ hs rfl

theorem once_give {kd kb k m : Nat} {p : Int} {s : Desk} {t : Int} {c : List (Int × List Int)} {u : List Int} (ho : (deskLive kd kb).ok (m + 2) s) (hc : Chain ((deskLive kd kb).look s) t c) (hi : Inv u (flat c) p) (hk : k < u.length) (hp : p ≤ 4096) :
    ∃ s' t' c', (deskShop kd kb).give s ⟨1, p, t, ((flat c).length : Int), 0, 0⟩ (u.getD k 0) = (s', ⟨1, p, t', ((flat c).length : Int) + 1, 0, 0⟩, 0) ∧ Chain ((deskLive kd kb).look s') t' c' ∧ flat c' = u.getD k 0 :: flat c ∧ (deskLive kd kb).ok m s' := by
  obtain ⟨h1, h2, h3⟩ := hi.at_ hk
  have hi0 := hi.1
  exact (deskLive kd kb).give (hd := ⟨1, p, t, ((flat c).length : Int), 0, 0⟩) (n := u.getD k 0) ho hc rfl h1 h2 hp (by show ((flat c).length : Int) < p - 1; omega) h3 (List.nodup_append.1 hi.2.1).2.1
theorem once_take {kd kb m : Nat} {p x : Int} {s : Desk} {t : Int} {c : List (Int × List Int)} {u st : List Int} (ho : (deskLive kd kb).ok (m + 2) s) (hc : Chain ((deskLive kd kb).look s) t c) (hi : Inv u (flat c) p) (hf : flat c = x :: st) :
    ∃ s' t' c', (deskShop kd kb).take s ⟨1, p, t, ((flat c).length : Int), 0, 0⟩ = (s', x, ⟨1, p, t', (st.length : Int), 0, 0⟩, 0) ∧ Chain ((deskLive kd kb).look s') t' c' ∧ flat c' = st ∧ (deskLive kd kb).ok m s' := by
  obtain ⟨s', t', c', h1, h2, h3, h4⟩ := (deskLive kd kb).take (hd := ⟨1, p, t, ((flat c).length : Int), 0, 0⟩) ho hc hf rfl (fun y hy => hi.2.2 y (List.mem_append_right u hy)) (List.nodup_append.1 hi.2.1).2.1
  refine ⟨s', t', c', ?_, h2, h3, h4⟩
  rw [h1]
  have : ((flat c).length : Int) - 1 = (st.length : Int) := by rw [hf]; simp
  dsimp only
  rw [this]
theorem R_none (w : World) (B : Nat) (hb : B ≤ w.heap.size) (ok : Nat → Prop) (hok : ok w.heap.size) : (Kd.int .i64).R 3 (w.alloc (.cells #[] 3)) B ok (.slice (some ⟨w.heap.size, 0, none⟩) 0 0) [] :=
  Kd.R_of_own (by
    have h := World.ownsRow_lit (base := B) (e := 3) (size := 1) w #[] 0 hb (by simp [maxLen]) rfl
    exact h) (fun k hk => by
    have : w.heap.size = k := by simpa [Value.ownBlock] using hk
    exact this ▸ hok)
end Go.Proofs.Ytonbipaajhokfaa
/-
  Rows and what stands past a call.
-/
set_option linter.unusedVariables false
set_option linter.unusedSimpArgs false
namespace Go.Proofs.Ytonbipaajhokfaa
open Go.RowKit Go.Proofs.YtonbipaajhokfaaW.PrintWords Go.Proofs.YtonbipaajhokfaaW.PrintLast Go.Proofs.YtonbipaajhokfaaW.PrintMore

theorem R_cellk {w : World} {B : Nat} {ok : Nat → Prop} {ad : Addr} {n c : Nat} {u : List Int} (h : (Kd.int .i64).R 3 w B ok (.slice (some ad) n c) u) (k : Nat) (hk : k < u.length) : w.cell? (ad.add k) = some (.int .i64 (u.getD k 0)) := by
  obtain ⟨h1, h2, h3⟩ := Kd.R_reads' h
  have h4 := Kd.C_max h3
  obtain ⟨ad', e, h5⟩ := Kd.at_int h3 (k : Int) (by omega) (by omega)
  injection e with e
  subst e
  rw [Int.toNat_natCast] at h5
  rw [h5]
  simp [rd]
theorem Past.R {F F' : Nat → Prop} {w w' : World} {B : Nat} {v : Value} {u : List Int} (h : Past F F' w w') (hR : (Kd.int .i64).R 3 w B (fun k => ¬ F k ∧ B ≤ k) v u) : (Kd.int .i64).R 3 w' B (fun k => ¬ F' k ∧ B ≤ k) v u := by
  have h1 := Kd.R_step (Kd.R_bound hR) (w1 := w') (fun k ho hlt => (h.2 k hlt ho.1.1).2)
  exact Kd.R_mono h1 (fun k hk => ⟨(h.2 k hk.2.2.1 hk.1.1).1, hk.1.2⟩)
theorem idx_ (x : Int) (n : Nat) (h : 0 < n) (h2 : n ≤ 9223372036854775807) : ∃ k : Nat, k < n ∧ wrap64 ((IntKind.u64.wrap x).tmod n) = k := by
  have h0 : 0 ≤ IntKind.u64.wrap x := by rw [IntKind.wrap_u64]; omega
  have h1 : 0 ≤ (IntKind.u64.wrap x).tmod n := Int.tmod_nonneg _ h0
  have h3 : (IntKind.u64.wrap x).tmod n < n := Int.tmod_lt_of_pos _ (by omega)
  refine ⟨((IntKind.u64.wrap x).tmod n).toNat, by omega, ?_⟩
  unfold wrap64
  omega
theorem Hold.drew {St : Type} {S : Shop St} {B : Nat} {w0 w : World} {s : St} {F : Nat → Prop} (h : Hold S B w0 w s F) : Hold S B w0 w.drew s F := h.below (Below.refl _ _).drew
theorem Hold.alloc {St : Type} {S : Shop St} {B : Nat} {w0 w : World} {s : St} {F : Nat → Prop} (h : Hold S B w0 w s F) (o : Obj) : Hold S B w0 (w.alloc o) s F := h.below (below_alloc (Below.refl _ _) o)
theorem no335 : ∀ q : Nat, q ∈ 3 :: (Kd.int .i64).E → q ≠ 35 := fun q hq => by simp [Kd.int, Kd.scalar] at hq; omega
theorem R_set6 {w : World} {B g : Nat} {ok : Nat → Prop} {v : Value} {u : List Int} {x0 x1 x2 x3 x4 x5 : Value} (h : (Kd.int .i64).R 3 w B ok v u) (hb : w.heap[g]? = some (.cells #[x0, x1, x2, x3, x4, x5] 35 (0, 0))) (y0 y1 y2 y3 y4 y5 : Value) :
    (Kd.int .i64).R 3 ((((((w.setCell ⟨g, 0, none⟩ y0).setCell ⟨g, 1, none⟩ y1).setCell ⟨g, 2, none⟩ y2).setCell ⟨g, 3, none⟩ y3).setCell ⟨g, 4, none⟩ y4).setCell ⟨g, 5, none⟩ y5) B ok v u := by
  have b0 := blk_put hb 0 y0 rfl
  have b1 := blk_put b0 1 y1 rfl
  have b2 := blk_put b1 2 y2 rfl
  have b3 := blk_put b2 3 y3 rfl
  have b4 := blk_put b3 4 y4 rfl
  exact Kd.R_set (Kd.R_set (Kd.R_set (Kd.R_set (Kd.R_set (Kd.R_set h hb no335 0 y0) b0 no335 1 y1) b1 no335 2 y2) b2 no335 3 y3) b3 no335 4 y4) b4 no335 5 y5
theorem Hold.grown {St : Type} {S : Shop St} {B : Nat} {w0 w w' : World} {s : St} {F : Nat → Prop} {row : Option Nat} (h : Hold S B w0 w s F) (hg : w.grownBy w' row) (hr : ∀ k, row = some k → ¬ F k ∧ B ≤ k) : Hold S B w0 w' s F :=
  ⟨S.keep h.1 (fun k hk => hg.block k (S.bound h.1 k hk) (fun e => (hr k e.symm).1 hk)) hg.size, h.2.1, h.2.2.1.grown hg h.2.2.2 (fun k e => (hr k e).2), Nat.le_trans h.2.2.2 hg.size⟩
theorem cut_from (A : Option Addr) (n c k : Nat) (h : k + 1 ≤ n) (W : World) : (Instr.slice 22 (.slice A n c) (some (.int .i64 ((k : Int) + 1))) none none).run Try.prog W = .ok (.slice (if c = k + 1 then A else A.map (·.add (k + 1))) (n - (k + 1)) (c - (k + 1))) W := by
  have hel : Try.prog.elem 22 = 3 := by kernel_rfl
  have hu : Try.prog.underlying 22 = some (.slice (Try.prog.elem 22)) := by rw [hel]; exact Try.underlying22
  obtain ⟨i, hi, hz⟩ := Option.map_eq_some_iff.1 info3
  simp only [Prod.mk.injEq] at hz
  rw [run_slice_l W 22 A n c hu .i64 ((k : Int) + 1) (by omega) (by omega), hel]
  have e : ((k : Int) + 1).toNat = k + 1 := by omega
  simp [sizeOf, typeInfo, hi, hz.2.1, sliced, Result.andThen, e]
theorem S_bound {St : Type} {S : Shop St} {B : Nat} {w0 w : World} {s : St} {F : Nat → Prop} (h : Hold S B w0 w s F) : ∀ k, F k → k < w.heap.size := S.bound h.1
theorem C_upto {w : World} {ad : Addr} {u : List Int} (h : (Kd.int .i64).C w (some ad) u.length u) (k : Nat) (hk : k ≤ u.length) : (Kd.int .i64).C w (some ad) k (u.take k) := by
  have := Kd.C_take h hk
  rwa [List.length_take, Nat.min_eq_left hk] at this
theorem C_from {w : World} {ad : Addr} {c : Nat} {u : List Int} (h : (Kd.int .i64).C w (some ad) u.length u) (k : Nat) (hk : k ≤ u.length) (hc : u.length ≤ c) : (Kd.int .i64).C w (if c = k then some ad else some (ad.add k)) (u.length - k) (u.drop k) := by
  have := Kd.C_drop h hk hc
  rw [List.length_drop] at this
  simpa [Kd.int, Kd.scalar] using this
theorem chain_zero {look : Int → ByteArray} {t : Int} {c : List (Int × List Int)} (h : Chain look t c) : (t == 0) = decide ((flat c).length = 0) := by
  rcases h.top with h | h
  · rw [h.1, h.2]; rfl
  · have h1 : 0 < (flat c).length := List.length_pos_of_mem h.2.2.1
    rw [decide_eq_false (by omega)]
    simp
    omega
/-- Take, with free pages and without. -/
theorem once_take_all {kd kb m : Nat} {p : Int} {s : Desk} {t : Int} {c : List (Int × List Int)} {u : List Int} (ho : (deskLive kd kb).ok (m + 2) s) (hc : Chain ((deskLive kd kb).look s) t c) (hi : Inv u (flat c) p) (hp : p < 4096) :
    ∃ nn p' t' s' c', (deskShop kd kb).take s ⟨1, p, t, ((flat c).length : Int), 0, 0⟩ = (s', nn, ⟨1, p', t', ((flat c').length : Int), 0, 0⟩, 0) ∧ Chain ((deskLive kd kb).look s') t' c' ∧ Inv (u ++ [nn]) (flat c') p' ∧ (deskLive kd kb).ok m s' ∧
      1 ≤ nn ∧ nn < p' ∧ nn ∉ u ∧ p ≤ p' ∧ p' ≤ p + 1 ∧ ((0 < (flat c).length ∧ (flat c).length = (flat c').length + 1) ∨ ((flat c).length = 0 ∧ (flat c').length = 0)) := by
  have h1 : 1 ≤ p := by have := hi.1; omega
  cases hf : flat c with
  | nil =>
    rw [hf] at hi
    refine ⟨p, p + 1, t, s, c, ?_, hc, by rw [hf]; exact hi.new, (deskLive kd kb).mono ((deskLive kd kb).mono ho), h1, by omega, fun hm => ?_, by omega, by omega, Or.inr ⟨rfl, by rw [hf]; rfl⟩⟩
    · have := take_none (deskShop kd kb) s ⟨1, p, t, 0, 0, 0⟩ rfl hp
      rw [hf]
      exact this
    · have := hi.2.2 p (List.mem_append_left _ hm); omega
  | cons x st =>
    obtain ⟨s', t', c', e1, e2, e3, e4⟩ := once_take ho hc hi hf
    rw [hf] at hi e1
    have hx := hi.2.2 x (List.mem_append_right u (by simp))
    refine ⟨x, p, t', s', c', ?_, e2, by rw [e3]; exact hi.take, e4, hx.1, hx.2, fun hm => ?_, by omega, by omega, Or.inl ⟨by simp, by rw [e3]; simp⟩⟩
    · rw [e3]; exact e1
    · exact (List.nodup_append.1 hi.2.1).2.2 x hm x (by simp) rfl
end Go.Proofs.Ytonbipaajhokfaa
