/-
  Walks: shelf.New; a shelf's Head and Arm.
-/
import Derived.Test.YtonbipaajhokfaaH3
set_option linter.unusedVariables false
set_option linter.unusedSimpArgs false
namespace Go.Proofs.Ytonbipaajhokfaa
open Go.RowKit Go.Proofs.YtonbipaajhokfaaW.PrintWords Go.Proofs.YtonbipaajhokfaaW.PrintLast Go.Proofs.YtonbipaajhokfaaW.PrintMore

theorem results_c {P : Program} {fn : Func} {p : Tmp} {ty : TypeId} (h : fn.results = #[.cell p ty]) (tmps : Array Value) (w : World) (g : Nat) (t : TypeId) (cs : Array Value) (fr : Nat × Nat) (d : TypeDesc)
    (hp : tmps.getD p undef = .pointer (some ⟨g, 0, none⟩)) (hg : w.heap[g]? = some (.cells cs t fr))
    (hu : P.underlying ty = some d) (hd : (match d with | .struct _ | .array _ _ => true | _ => false) = true) (hi : (P.info? ty).map (·.size) = some cs.size) :
    (results fn tmps).run P w = .ok (.agg cs) w := by
  have hp' : tmps[p]?.getD undef = .pointer (some ⟨g, 0, none⟩) := by simpa using hp
  simp [results, h, hp', asAddr, run_loadVar_row w g t ty cs fr d hg hu hd hi]
set_option maxRecDepth 100000 in
theorem fresh46_calls (w : World) : Calls Try.prog 46 #[] w fun e w' => e = .returned (.agg #[.int .i64 1, .int .i64 1, .int .i64 0, .int .i64 0, .int .i64 0, .int .u64 0]) ∧ Below w.heap.size w w' := by
  have hu35 := Try.underlying35
  go_enter Try.func46, Try.ntmps46
  go_wp2
  refine bodyPost_ret (results_c rfl _ _ w.heap.size 35 #[.int .i64 1, .int .i64 1, .int .i64 0, .int .i64 0, .int .i64 0, .int .u64 0] (0, 0) _ rfl (blk_new w _) Try.underlying35 rfl (by kernel_rfl)) rfl ?_
  exact ⟨rfl, below_alloc (Below.refl _ _) _⟩
def Sh.start (lim : Int) : Sh := ⟨lim, ⟨1, 1, 0, 0, 0, 0⟩, fun _ => none, -1⟩
set_option maxHeartbeats 1000000 in
set_option maxRecDepth 100000 in
theorem shelfNew_calls (lim : Int) (w : World) (h1 : 1 ≤ lim) (h2 : lim ≤ 4096) :
    Calls Try.prog 26 #[.int .i64 lim] w fun e w' => ∃ ks mb, e = .returned (.pointer (some ⟨ks, 0, none⟩)) ∧ ShAt ks mb w' (Sh.start lim) ∧ w.heap.size ≤ ks ∧ w.heap.size ≤ mb ∧ Below w.heap.size w w' := by
  have hmm := @run_makeMap Try.prog
  have hm1 : max lim 1 = lim := by omega
  have hm2 : min lim 4096 = lim := by omega
  go_enter Try.func26, Try.ntmps26
  go_wp2_with (go_at_call 46; refine (fresh46_calls _).mono ?_; rintro e w1 ⟨rfl, hb1⟩)
  go_ret
  refine ⟨w1.heap.size + 1, w1.heap.size, rfl, ⟨?_, ?_⟩, Nat.le_trans hb1.size (by omega), hb1.size, ?_⟩
  · have := blk_new (w1.alloc (.map #[] 0)) (.cells #[.int .i64 lim, .int .i64 1, .int .i64 1, .int .i64 0, .int .i64 0, .int .i64 0, .int .u64 0, .map (some w1.heap.size), .int .i64 (-1)] 92)
    rw [World.size_alloc] at this
    exact this
  · refine (MapAt.new w1).keep ?_
    exact (below_alloc (Below.refl (w1.alloc (.map #[] 0)).heap.size (w1.alloc (.map #[] 0))) _).block w1.heap.size (by simp)
  · exact (hb1.trans ((below_alloc (below_alloc (Below.refl w1.heap.size w1) _) _).mono hb1.size))
set_option maxRecDepth 100000 in
theorem shHead_calls (ks mb : Nat) (s : Sh) (w : World) (h : ShAt ks mb w s) :
    Calls Try.prog 32 #[.pointer (some ⟨ks, 0, none⟩)] w fun e w' => e = .returned s.hd.v ∧ Below w.heap.size w w' := by
  obtain ⟨lim, ⟨m, p, t, sp, r, ch⟩, f, lf⟩ := s
  have hu35 := Try.underlying35
  have a1 : ∀ o, (w.alloc o).cell? ⟨ks, 1, none⟩ = some (.int .i64 m) := fun o => (blk_cell (blk_alloc h.1 o) 1).trans rfl
  have a2 : ∀ o, (w.alloc o).cell? ⟨ks, 2, none⟩ = some (.int .i64 p) := fun o => (blk_cell (blk_alloc h.1 o) 2).trans rfl
  have a3 : ∀ o, (w.alloc o).cell? ⟨ks, 3, none⟩ = some (.int .i64 t) := fun o => (blk_cell (blk_alloc h.1 o) 3).trans rfl
  have a4 : ∀ o, (w.alloc o).cell? ⟨ks, 4, none⟩ = some (.int .i64 sp) := fun o => (blk_cell (blk_alloc h.1 o) 4).trans rfl
  have a5 : ∀ o, (w.alloc o).cell? ⟨ks, 5, none⟩ = some (.int .i64 r) := fun o => (blk_cell (blk_alloc h.1 o) 5).trans rfl
  have a6 : ∀ o, (w.alloc o).cell? ⟨ks, 6, none⟩ = some (.int .u64 ch) := fun o => (blk_cell (blk_alloc h.1 o) 6).trans rfl
  have hks := h.lt
  have HKS := Aside0.mk hks
  clear hks
  clear h
  go_enter Try.func32, Try.ntmps32
  go_wp2
  refine bodyPost_ret (results_c rfl _ _ w.heap.size 35 #[.int .i64 m, .int .i64 p, .int .i64 t, .int .i64 sp, .int .i64 r, .int .u64 ch] (0, 0) _ rfl ?_ Try.underlying35 rfl (by kernel_rfl)) rfl ?_
  · exact blk_new w _
  · exact ⟨rfl, below_alloc (Below.refl _ _) _⟩
set_option maxRecDepth 100000 in
theorem shArm_calls (ks mb : Nat) (s : Sh) (n : Int) (w : World) (h : ShAt ks mb w s) (h0 : 0 ≤ n) (h1 : n ≤ 1) :
    Calls Try.prog 34 #[.pointer (some ⟨ks, 0, none⟩), .int .i64 n] w fun e w' => e = .returned (.tuple #[]) ∧ ShAt ks mb w' ⟨s.limit, s.hd, s.f, n - 1⟩ ∧ Fr (ShF ks mb) w w' := by
  have H := Aside0.mk h
  have a8 := (blk_cell h.1 8).trans rfl
  have af8 := blk_frozen h.1 8
  have hm1 : max n 0 = n := by omega
  clear h
  go_enter Try.func34, Try.ntmps34
  go_wp2
  refine bodyPost_end (results_none rfl _ _ _) rfl ⟨rfl, ⟨blk_put H.out.1 8 _ rfl, H.out.2.keep (Below.heap_setCell _ (⟨ks, 8, none⟩ : Addr) _ mb (Ne.symm H.out.ne))⟩, (Fr.refl _ w).setCell (p := ⟨ks, 8, none⟩) (Or.inl (Or.inl rfl)) _⟩
end Go.Proofs.Ytonbipaajhokfaa
