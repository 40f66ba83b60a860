/-
  Walk: SpareBack.
-/
import Derived.Test.YtonbipaajhokfaaC4
set_option linter.unusedVariables false
set_option linter.unusedSimpArgs false
namespace Go.Proofs.Ytonbipaajhokfaa
open Go.RowKit Go.Proofs.YtonbipaajhokfaaW.PrintWords Go.Proofs.YtonbipaajhokfaaW.PrintLast Go.Proofs.YtonbipaajhokfaaW.PrintMore

def downs : Nat → List Int
  | 0 => []
  | j + 1 => ((j : Int) + 1) :: downs j
theorem downs_length (j : Nat) : (downs j).length = j := by
  induction j with
  | zero => rfl
  | succ j ih => simp [downs, ih]
theorem mem_downs {j : Nat} {x : Int} : x ∈ downs j ↔ 1 ≤ x ∧ x ≤ j := by
  induction j with
  | zero => simp [downs]; omega
  | succ j ih => simp only [downs, List.mem_cons, ih]; omega
theorem downs_nodup (j : Nat) : (downs j).Nodup := by
  induction j with
  | zero => simp [downs]
  | succ j ih => simp only [downs, List.nodup_cons, mem_downs]; exact ⟨by omega, ih⟩
theorem desk_new_ok2 (kd kb : Nat) : (deskLive kd kb).ok 1000 Desk.new := by
  show _ ∧ _ ∧ _
  unfold Desk.new
  simp

/-- The pages above r are marked. -/
def Seen (n r : Nat) (cs : Array Value) : Prop := cs.size = n + 1 ∧ ∀ k, k ≤ n → cs[k]? = some (.bool (decide (r < k)))
theorem Seen.start (n : Nat) : Seen n n (madeCells #[.bool false] (n + 1)) := by
  refine ⟨by simp [madeCells], fun k hk => ?_⟩
  rw [decide_eq_false (by omega)]
  unfold madeCells
  rw [Array.getElem?_map, Array.getElem?_range, if_pos (by omega)]
  simp [Nat.mod_one]
theorem Seen.at_ {n r : Nat} {cs : Array Value} (h : Seen n (r + 1) cs) (hr : r + 1 ≤ n) : cs[r + 1]? = some (.bool false) := by
  rw [h.2 _ hr, decide_eq_false (by omega)]
theorem Seen.set {n r : Nat} {cs : Array Value} (h : Seen n (r + 1) cs) (hr : r + 1 ≤ n) : Seen n r (cs.set! (r + 1) (.bool true)) := by
  refine ⟨by simp [h.1], fun k hk => ?_⟩
  rw [Array.set!_eq_setIfInBounds, Array.getElem?_setIfInBounds]
  by_cases e : r + 1 = k
  · subst e; rw [if_pos rfl, if_pos (by rw [h.1]; omega), decide_eq_true (by omega)]
  · rw [if_neg e, h.2 k hk]
    congr 2
    simp
    omega
theorem far6 {w : World} {g k : Nat} {cs : Array Value} {t : TypeId} (h : w.heap[k]? = some (.cells cs t (0, 0))) (hn : k ≠ g) (y0 y1 y2 y3 y4 y5 : Value) :
    ((((((w.setCell ⟨g, 0, none⟩ y0).setCell ⟨g, 1, none⟩ y1).setCell ⟨g, 2, none⟩ y2).setCell ⟨g, 3, none⟩ y3).setCell ⟨g, 4, none⟩ y4).setCell ⟨g, 5, none⟩ y5).heap[k]? = some (.cells cs t (0, 0)) :=
  blk_far (p := ⟨g, 5, none⟩) (blk_far (p := ⟨g, 4, none⟩) (blk_far (p := ⟨g, 3, none⟩) (blk_far (p := ⟨g, 2, none⟩) (blk_far (p := ⟨g, 1, none⟩) (blk_far (p := ⟨g, 0, none⟩) h hn _) hn _) hn _) hn _) hn _) hn _
theorem info4 : (Try.prog.info? 4).map (fun i => (i.zero, i.size, i.bytes)) = some (some (.bool false), 1, 1) := by kernel_rfl
theorem make59 (n : Nat) (h : n < 200) (w : World) : (Instr.makeSlice 59 (.int .i64 ((n : Int) + 1)) (.int .i64 ((n : Int) + 1))).run Try.prog w = .ok (.slice (some ⟨w.heap.size, 0, none⟩) (n + 1) (n + 1)) (w.alloc (.cells (madeCells #[.bool false] (n + 1)) 4)) :=
  run_make_row' (P := Try.prog) 59 4 (.bool false) 1 Try.underlying59 info4 rfl .i64 .i64 (n + 1) (by omega) (by omega) w
theorem give_down {kd kb k n j : Nat} {s : Desk} {t : Int} {c : List (Int × List Int)} {md : Int} (ho : (deskLive kd kb).ok (k + 2) s) (hc : Chain ((deskLive kd kb).look s) t c) (hf : flat c = downs j) (hj : j < n) (hn : n < 4000) :
    ∃ s' t' c', (deskShop kd kb).give s ⟨md, (n : Int) + 1, t, j, 0, 0⟩ ((j : Int) + 1) = (s', ⟨md, (n : Int) + 1, t', (j : Int) + 1, 0, 0⟩, 0) ∧ Chain ((deskLive kd kb).look s') t' c' ∧ flat c' = downs (j + 1) ∧ (deskLive kd kb).ok k s' := by
  obtain ⟨s', t', c', h1, h2, h3, h4⟩ := (deskLive kd kb).give (hd := ⟨md, (n : Int) + 1, t, j, 0, 0⟩) (n := (j : Int) + 1) ho hc (by rw [hf, downs_length]) (by omega) (by show (j : Int) + 1 < (n : Int) + 1; omega) (by show (n : Int) + 1 ≤ 4096; omega) (by show (j : Int) < (n : Int) + 1 - 1; omega) (by rw [hf, mem_downs]; omega) (by rw [hf]; exact downs_nodup j)
  exact ⟨s', t', c', h1, h2, by rw [h3, hf]; rfl, h4⟩
theorem take_down {kd kb k n j : Nat} {s : Desk} {t : Int} {c : List (Int × List Int)} {md : Int} (ho : (deskLive kd kb).ok (k + 2) s) (hc : Chain ((deskLive kd kb).look s) t c) (hf : flat c = downs (j + 1)) (hj : j < n) (hn : n < 4000) :
    ∃ s' t' c', (deskShop kd kb).take s ⟨md, (n : Int) + 1, t, (j : Int) + 1, 0, 0⟩ = (s', (j : Int) + 1, ⟨md, (n : Int) + 1, t', j, 0, 0⟩, 0) ∧ Chain ((deskLive kd kb).look s') t' c' ∧ flat c' = downs j ∧ (deskLive kd kb).ok k s' := by
  obtain ⟨s', t', c', h1, h2, h3, h4⟩ := (deskLive kd kb).take (hd := ⟨md, (n : Int) + 1, t, (j : Int) + 1, 0, 0⟩) (x := (j : Int) + 1) (st := downs j) ho hc hf (by rw [hf, downs_length]; simp) (by
    rw [hf]; intro y hy; rw [mem_downs] at hy; show 1 ≤ y ∧ y < (n : Int) + 1; omega) (by rw [hf]; exact downs_nodup (j + 1))
  refine ⟨s', t', c', ?_, h2, h3, h4⟩
  rw [h1]
  simp


set_option maxHeartbeats 4000000 in
set_option maxRecDepth 100000 in
theorem spareBack_calls (n0 : Int) (w : World) : Calls Try.prog 6 #[.int .i64 n0] w fun e w' => e = .returned (.bool true) ∧ Below w.heap.size w w' := by
  have hu35 := Try.underlying35
  obtain ⟨n, hn⟩ : ∃ n : Nat, (n : Int) = IntKind.u64.wrap n0 % 200 := ⟨(IntKind.u64.wrap n0 % 200).toNat, by rw [IntKind.wrap_u64]; omega⟩
  have hn2 : n < 200 := by rw [IntKind.wrap_u64] at hn; omega
  go_enter Try.func6, Try.ntmps6
  go_wp2_with (go_at_call 11; refine (awake_calls _).mono ?_; rintro e w0 ⟨rfl, hB0⟩)
  have hw : wrap64 ((IntKind.u64.wrap n0).tmod 200) = (n : Int) := by
    rw [hn, IntKind.wrap_u64, Int.tmod_eq_emod_of_nonneg (by omega)]
    unfold wrap64
    omega
  rw [hw]
  refine (fresh_calls _).mono ?_
  rintro e w1 ⟨kd, kb, rfl, F, hA, hF, hB⟩
  have HH0 := Aside0.mk (show Hold (deskShop kd kb) w.heap.size w w1 Desk.new F from ⟨hA, fun k hk => Nat.le_trans hB0.size (hF k hk), hB0.trans (hB.mono hB0.size), Nat.le_trans hB0.size hB.size⟩)
  clear hA hF hB hB0 hw hn
  have hn1 : wrap64 ((n : Int) + 1) = (n : Int) + 1 := by unfold wrap64; omega
  go_wp2_with fail
  obtain ⟨g, hg⟩ : ∃ g, g = w1.heap.size := ⟨_, rfl⟩
  obtain ⟨wh, hwh⟩ : ∃ wh, wh = w1.alloc (.cells #[.int .i64 2, .int .i64 ((n : Int) + 1), .int .i64 0, .int .i64 0, .int .i64 0, .int .u64 0] 35) := ⟨_, rfl⟩
  have HK := Aside0.mk (show wh.heap[g]? = some (.cells #[.int .i64 2, .int .i64 ((n : Int) + 1), .int .i64 0, .int .i64 0, .int .i64 0, .int .u64 0] 35 (0, 0)) by rw [hwh, hg]; exact blk_new w1 _)
  have HH := Aside0.mk (show Hold (deskShop kd kb) w.heap.size w wh Desk.new F by rw [hwh]; exact HH0.out.below (below_alloc (Below.refl _ _) _))
  have HN := Aside0.mk (show ¬ F g by rw [hg]; exact HH0.out.fresh)
  have HG := Aside0.mk (show w.heap.size ≤ g by rw [hg]; exact HH0.out.2.2.2)
  rw [← hwh, ← hg]
  clear hwh hg HH0
  go_loopw [5] (fun i wr => ∃ (j : Nat) (s : Desk) (t : Int) (c : List (Int × List Int)) (F : Nat → Prop), j ≤ n ∧ i = .int .i64 ((j : Int) + 1) ∧ Aside0 (wr.heap[g]? = some (.cells #[.int .i64 2, .int .i64 ((n : Int) + 1), .int .i64 t, .int .i64 j, .int .i64 0, .int .u64 0] 35 (0, 0))) ∧ Aside0 (Hold (deskShop kd kb) w.heap.size w wr s F) ∧ Aside0 (¬ F g) ∧
      Aside0 (Chain ((deskLive kd kb).look s) t c) ∧ Aside0 (flat c = downs j) ∧ Aside0 ((deskLive kd kb).ok (1000 - 2 * j) s)) (fun i _ => n + 1 - (intOf i).toNat)
  case atStart => exact ⟨0, Desk.new, 0, [], F, Nat.zero_le _, rfl, HK, HH, HN, ⟨rfl⟩, ⟨rfl⟩, ⟨desk_new_ok2 kd kb⟩⟩
  case round =>
    clear HK HH HN
    obtain ⟨j, s, t, c, F1, hj, rfl, HK, HH, HN, HC, HF, HO⟩ := hrel
    have hj1 : wrap64 ((j : Int) + 1 + 1) = (j : Int) + 1 + 1 := by unfold wrap64; omega
    by_cases hlt : j < n
    · have t1 : decide ((j : Int) + 1 ≤ (n : Int)) = true := decide_eq_true (by omega)
      have a0 : wr.cell? ⟨g, 0, none⟩ = some (.int .i64 2) := (blk_cell HK.out 0).trans rfl
      have a1 : wr.cell? ⟨g, 1, none⟩ = some (.int .i64 ((n : Int) + 1)) := (blk_cell HK.out 1).trans rfl
      have a2 : wr.cell? ⟨g, 2, none⟩ = some (.int .i64 t) := (blk_cell HK.out 2).trans rfl
      have a3 : wr.cell? ⟨g, 3, none⟩ = some (.int .i64 j) := (blk_cell HK.out 3).trans rfl
      have a4 : wr.cell? ⟨g, 4, none⟩ = some (.int .i64 0) := (blk_cell HK.out 4).trans rfl
      have a5 : wr.cell? ⟨g, 5, none⟩ = some (.int .u64 0) := (blk_cell HK.out 5).trans rfl
      have af0 : wr.frozen? ⟨g, 0, none⟩ = false := blk_frozen HK.out 0
      have af1 : wr.frozen? ⟨g, 1, none⟩ = false := blk_frozen HK.out 1
      have af2 : wr.frozen? ⟨g, 2, none⟩ = false := blk_frozen HK.out 2
      have af3 : wr.frozen? ⟨g, 3, none⟩ = false := blk_frozen HK.out 3
      have af4 : wr.frozen? ⟨g, 4, none⟩ = false := blk_frozen HK.out 4
      have af5 : wr.frozen? ⟨g, 5, none⟩ = false := blk_frozen HK.out 5
      go_wp2_with fail
      obtain ⟨s', t', c', e1, e2, e3, e4⟩ := give_down (k := 1000 - 2 * (j + 1)) (md := 2) (by have := HO.out; rwa [show 1000 - 2 * j = 1000 - 2 * (j + 1) + 2 by omega] at this) HC.out HF.out hlt (by omega)
      have hfit := (deskLive kd kb).fits (k := 999 - 2 * j) (by have := HO.out; rwa [show 1000 - 2 * j = 999 - 2 * j + 1 by omega] at this)
      refine (HH.out.giveE e1 hfit (by omega) (by omega) (by omega)).mono ?_
      rintro e w2 ⟨rfl, F2, hH2, hP2⟩
      have HN2 := Aside0.mk (hP2.out HK.out HN.out)
      replace HK := Aside0.mk (hP2.blk HK.out HN.out)
      replace HN := HN2
      replace HH := Aside0.mk hH2
      replace HC := Aside0.mk e2
      replace HF := Aside0.mk e3
      replace HO := Aside0.mk e4
      clear e1 e2 e3 e4 hfit hH2 hP2 HN2 a0 af0 a1 af1 a2 af2 a3 af3 a4 af4 a5 af5
      have a0 : ∀ o, (w2.alloc o).cell? ⟨g, 0, none⟩ = some (.int .i64 2) := fun o => (blk_cell (blk_alloc HK.out o) 0).trans rfl
      have a1 : ∀ o, (w2.alloc o).cell? ⟨g, 1, none⟩ = some (.int .i64 ((n : Int) + 1)) := fun o => (blk_cell (blk_alloc HK.out o) 1).trans rfl
      have a2 : ∀ o, (w2.alloc o).cell? ⟨g, 2, none⟩ = some (.int .i64 t) := fun o => (blk_cell (blk_alloc HK.out o) 2).trans rfl
      have a3 : ∀ o, (w2.alloc o).cell? ⟨g, 3, none⟩ = some (.int .i64 j) := fun o => (blk_cell (blk_alloc HK.out o) 3).trans rfl
      have a4 : ∀ o, (w2.alloc o).cell? ⟨g, 4, none⟩ = some (.int .i64 0) := fun o => (blk_cell (blk_alloc HK.out o) 4).trans rfl
      have a5 : ∀ o, (w2.alloc o).cell? ⟨g, 5, none⟩ = some (.int .u64 0) := fun o => (blk_cell (blk_alloc HK.out o) 5).trans rfl
      have af0 : ∀ o, (w2.alloc o).frozen? ⟨g, 0, none⟩ = false := fun o => blk_frozen (blk_alloc HK.out o) 0
      have af1 : ∀ o, (w2.alloc o).frozen? ⟨g, 1, none⟩ = false := fun o => blk_frozen (blk_alloc HK.out o) 1
      have af2 : ∀ o, (w2.alloc o).frozen? ⟨g, 2, none⟩ = false := fun o => blk_frozen (blk_alloc HK.out o) 2
      have af3 : ∀ o, (w2.alloc o).frozen? ⟨g, 3, none⟩ = false := fun o => blk_frozen (blk_alloc HK.out o) 3
      have af4 : ∀ o, (w2.alloc o).frozen? ⟨g, 4, none⟩ = false := fun o => blk_frozen (blk_alloc HK.out o) 4
      have af5 : ∀ o, (w2.alloc o).frozen? ⟨g, 5, none⟩ = false := fun o => blk_frozen (blk_alloc HK.out o) 5
      go_wp2
      go_roundw
      case measure => show n + 1 - _ < n + 1 - _; simp only [intOf]; omega
      case rel => exact ⟨j + 1, s', t', c', F2, by omega, rfl, ⟨put6 (blk_alloc HK.out _) _ _ _ _ _ _⟩, ⟨(HH.out.below (below_alloc (Below.refl _ _) _)).set6 HN.out HG.out _ _ _ _ _ _⟩, HN, HC, HF, HO⟩
    · have t1 : decide ((j : Int) + 1 ≤ (n : Int)) = false := decide_eq_false (by omega)
      obtain rfl : j = n := by omega
      clear hj hlt
      have hmk := make59 j hn2
      go_wp2_with fail
      clear hmk
      obtain ⟨q, hq⟩ : ∃ q, q = wr.heap.size := ⟨_, rfl⟩
      obtain ⟨wq, hwq⟩ : ∃ wq, wq = wr.alloc (.cells (madeCells #[.bool false] (j + 1)) 4) := ⟨_, rfl⟩
      replace HK := Aside0.mk (show wq.heap[g]? = some (.cells #[.int .i64 2, .int .i64 ((j : Int) + 1), .int .i64 t, .int .i64 j, .int .i64 0, .int .u64 0] 35 (0, 0)) by rw [hwq]; exact blk_alloc HK.out _)
      have HQ := Aside0.mk (show wq.heap[q]? = some (.cells (madeCells #[.bool false] (j + 1)) 4 (0, 0)) by rw [hwq, hq]; exact blk_new wr _)
      have HNQ := Aside0.mk (show ¬ F1 q by rw [hq]; exact HH.out.fresh)
      have HGQ := Aside0.mk (show w.heap.size ≤ q by rw [hq]; exact HH.out.2.2.2)
      replace HH := Aside0.mk (show Hold (deskShop kd kb) w.heap.size w wq s F1 by rw [hwq]; exact HH.out.below (below_alloc (Below.refl _ _) _))
      have HGN := Aside0.mk (show g ≠ q by intro e; have h1 := HK.out; rw [e, HQ.out] at h1; injection h1 with h1; injection h1 with _ h1; exact absurd h1 (by decide))
      rw [← hwq, ← hq]
      clear hwq hq
      go_loopw [9] (fun i wr => ∃ (r : Nat) (s : Desk) (t : Int) (c : List (Int × List Int)) (F : Nat → Prop) (cs : Array Value), r ≤ j ∧ i = .int .i64 ((j : Int) - r) ∧ Aside0 (wr.heap[g]? = some (.cells #[.int .i64 2, .int .i64 ((j : Int) + 1), .int .i64 t, .int .i64 r, .int .i64 0, .int .u64 0] 35 (0, 0))) ∧
          Aside0 (wr.heap[q]? = some (.cells cs 4 (0, 0))) ∧ Aside0 (Seen j r cs) ∧ Aside0 (Hold (deskShop kd kb) w.heap.size w wr s F) ∧ Aside0 (¬ F g) ∧ Aside0 (¬ F q) ∧
          Aside0 (Chain ((deskLive kd kb).look s) t c) ∧ Aside0 (flat c = downs r) ∧ Aside0 ((deskLive kd kb).ok (1000 - 2 * j - 2 * (j - r)) s)) (fun i _ => j - (intOf i).toNat)
      case atStart => exact ⟨j, s, t, c, F1, _, Nat.le_refl _, by simp, HK, HQ, ⟨Seen.start j⟩, HH, HN, HNQ, HC, HF, ⟨by have := HO.out; rwa [show 1000 - 2 * j = 1000 - 2 * j - 2 * (j - j) by omega] at this⟩⟩
      case round =>
        clear HK HQ HH HN HNQ HC HF HO
        obtain ⟨r, s, t, c, F1, cs, hr, rfl, HK, HQ, HS, HH, HN, HNQ, HC, HF, HO⟩ := hrel
        have hr1 : wrap64 ((j : Int) - r + 1) = (j : Int) - r + 1 := by unfold wrap64; omega
        cases r with
        | zero =>
          have t2 : decide ((j : Int) - ((0 : Nat) : Int) < (j : Int)) = false := decide_eq_false (by omega)
          have ht : t = 0 := by
            rcases HC.out.top with h | h
            · exact h.1
            · have h1 := h.2.2.1; rw [HF.out] at h1; simp [downs] at h1
          subst ht
          have a0 : wr.cell? ⟨g, 0, none⟩ = some (.int .i64 2) := (blk_cell HK.out 0).trans rfl
          have a1 : wr.cell? ⟨g, 1, none⟩ = some (.int .i64 ((j : Int) + 1)) := (blk_cell HK.out 1).trans rfl
          have a2 : wr.cell? ⟨g, 2, none⟩ = some (.int .i64 0) := (blk_cell HK.out 2).trans rfl
          have a3 : wr.cell? ⟨g, 3, none⟩ = some (.int .i64 0) := (blk_cell HK.out 3).trans rfl
          have a4 : wr.cell? ⟨g, 4, none⟩ = some (.int .i64 0) := (blk_cell HK.out 4).trans rfl
          have a5 : wr.cell? ⟨g, 5, none⟩ = some (.int .u64 0) := (blk_cell HK.out 5).trans rfl
          have af0 : wr.frozen? ⟨g, 0, none⟩ = false := blk_frozen HK.out 0
          have af1 : wr.frozen? ⟨g, 1, none⟩ = false := blk_frozen HK.out 1
          have af2 : wr.frozen? ⟨g, 2, none⟩ = false := blk_frozen HK.out 2
          have af3 : wr.frozen? ⟨g, 3, none⟩ = false := blk_frozen HK.out 3
          have af4 : wr.frozen? ⟨g, 4, none⟩ = false := blk_frozen HK.out 4
          have af5 : wr.frozen? ⟨g, 5, none⟩ = false := blk_frozen HK.out 5
          go_wp2
          go_ret
          exact ⟨rfl, HH.out.2.2.1⟩
        | succ r =>
          have t2 : decide ((j : Int) - ((r + 1 : Nat) : Int) < (j : Int)) = true := decide_eq_true (by omega)
          have a0 : wr.cell? ⟨g, 0, none⟩ = some (.int .i64 2) := (blk_cell HK.out 0).trans rfl
          have a1 : wr.cell? ⟨g, 1, none⟩ = some (.int .i64 ((j : Int) + 1)) := (blk_cell HK.out 1).trans rfl
          have a2 : wr.cell? ⟨g, 2, none⟩ = some (.int .i64 t) := (blk_cell HK.out 2).trans rfl
          have a3 : wr.cell? ⟨g, 3, none⟩ = some (.int .i64 ((r : Int) + 1)) := (blk_cell HK.out 3).trans rfl
          have a4 : wr.cell? ⟨g, 4, none⟩ = some (.int .i64 0) := (blk_cell HK.out 4).trans rfl
          have a5 : wr.cell? ⟨g, 5, none⟩ = some (.int .u64 0) := (blk_cell HK.out 5).trans rfl
          have af0 : wr.frozen? ⟨g, 0, none⟩ = false := blk_frozen HK.out 0
          have af1 : wr.frozen? ⟨g, 1, none⟩ = false := blk_frozen HK.out 1
          have af2 : wr.frozen? ⟨g, 2, none⟩ = false := blk_frozen HK.out 2
          have af3 : wr.frozen? ⟨g, 3, none⟩ = false := blk_frozen HK.out 3
          have af4 : wr.frozen? ⟨g, 4, none⟩ = false := blk_frozen HK.out 4
          have af5 : wr.frozen? ⟨g, 5, none⟩ = false := blk_frozen HK.out 5
          go_wp2_with fail
          obtain ⟨s', t', c', e1, e2, e3, e4⟩ := take_down (k := 1000 - 2 * j - 2 * (j - r)) (md := 2) (by have := HO.out; rwa [show 1000 - 2 * j - 2 * (j - (r + 1)) = 1000 - 2 * j - 2 * (j - r) + 2 by omega] at this) HC.out HF.out hr (by omega)
          have hfit := (deskLive kd kb).fits (k := 1000 - 2 * j - 2 * (j - r) + 1) (by have := HO.out; rwa [show 1000 - 2 * j - 2 * (j - (r + 1)) = 1000 - 2 * j - 2 * (j - r) + 1 + 1 by omega] at this)
          refine (HH.out.takeE e1 hfit (by omega) (by omega) (by omega)).mono ?_
          rintro e w2 ⟨rfl, F2, hH2, hP2⟩
          have HN2 := Aside0.mk (hP2.out HK.out HN.out)
          have HNQ2 := Aside0.mk (hP2.out HQ.out HNQ.out)
          replace HK := Aside0.mk (hP2.blk HK.out HN.out)
          replace HQ := Aside0.mk (hP2.blk HQ.out HNQ.out)
          replace HN := HN2
          replace HNQ := HNQ2
          replace HH := Aside0.mk hH2
          replace HC := Aside0.mk e2
          replace HF := Aside0.mk e3
          replace HO := Aside0.mk e4
          clear e1 e2 e3 e4 hfit hH2 hP2 HN2 HNQ2 a0 af0 a1 af1 a2 af2 a3 af3 a4 af4 a5 af5
          have a0 : ∀ o, (w2.alloc o).cell? ⟨g, 0, none⟩ = some (.int .i64 2) := fun o => (blk_cell (blk_alloc HK.out o) 0).trans rfl
          have a1 : ∀ o, (w2.alloc o).cell? ⟨g, 1, none⟩ = some (.int .i64 ((j : Int) + 1)) := fun o => (blk_cell (blk_alloc HK.out o) 1).trans rfl
          have a2 : ∀ o, (w2.alloc o).cell? ⟨g, 2, none⟩ = some (.int .i64 t) := fun o => (blk_cell (blk_alloc HK.out o) 2).trans rfl
          have a3 : ∀ o, (w2.alloc o).cell? ⟨g, 3, none⟩ = some (.int .i64 ((r : Int) + 1)) := fun o => (blk_cell (blk_alloc HK.out o) 3).trans rfl
          have a4 : ∀ o, (w2.alloc o).cell? ⟨g, 4, none⟩ = some (.int .i64 0) := fun o => (blk_cell (blk_alloc HK.out o) 4).trans rfl
          have a5 : ∀ o, (w2.alloc o).cell? ⟨g, 5, none⟩ = some (.int .u64 0) := fun o => (blk_cell (blk_alloc HK.out o) 5).trans rfl
          have af0 : ∀ o, (w2.alloc o).frozen? ⟨g, 0, none⟩ = false := fun o => blk_frozen (blk_alloc HK.out o) 0
          have af1 : ∀ o, (w2.alloc o).frozen? ⟨g, 1, none⟩ = false := fun o => blk_frozen (blk_alloc HK.out o) 1
          have af2 : ∀ o, (w2.alloc o).frozen? ⟨g, 2, none⟩ = false := fun o => blk_frozen (blk_alloc HK.out o) 2
          have af3 : ∀ o, (w2.alloc o).frozen? ⟨g, 3, none⟩ = false := fun o => blk_frozen (blk_alloc HK.out o) 3
          have af4 : ∀ o, (w2.alloc o).frozen? ⟨g, 4, none⟩ = false := fun o => blk_frozen (blk_alloc HK.out o) 4
          have af5 : ∀ o, (w2.alloc o).frozen? ⟨g, 5, none⟩ = false := fun o => blk_frozen (blk_alloc HK.out o) 5
          have b0 : ∀ o, (w2.alloc o).cell? ⟨q, r + 1, none⟩ = some (.bool false) := fun o => (blk_cell (blk_alloc HQ.out o) (r + 1)).trans (HS.out.at_ hr)
          have bf0 : ∀ o, (w2.alloc o).frozen? ⟨q, r + 1, none⟩ = false := fun o => blk_frozen (blk_alloc HQ.out o) (r + 1)
          have hq1 : ¬ q = w2.heap.size := by have := blk_lt HQ.out; omega
          have hq2 : ¬ w2.heap.size = q := by have := blk_lt HQ.out; omega
          have hq3 : ¬ g = q := HGN.out
          have hq4 : ¬ q = g := Ne.symm HGN.out
          have hrr : ((r : Int) + 1).toNat = r + 1 := by omega
          go_wp2
          go_roundw
          case measure => simp only [intOf]; omega
          case rel => exact ⟨r, s', t', c', F2, _, by omega, by congr 1; omega, ⟨put6 (blk_far (blk_alloc HK.out _) HGN.out _) _ _ _ _ _ _⟩, ⟨far6 (blk_set (blk_alloc HQ.out _) (r + 1) (.bool true)) (Ne.symm HGN.out) _ _ _ _ _ _⟩, ⟨HS.out.set hr⟩,
            ⟨((HH.out.below (below_alloc (Below.refl _ _) _)).set (p := ⟨q, r + 1, none⟩) HNQ.out HGQ.out _).set6 HN.out HG.out _ _ _ _ _ _⟩, HN, HNQ, HC, HF, HO⟩
end Go.Proofs.Ytonbipaajhokfaa
