/-
  Walk: spare.Take over any store.
-/
import Derived.Test.YtonbipaajhokfaaB4
set_option linter.unusedVariables false
set_option linter.unusedSimpArgs false
namespace Go.Proofs.Ytonbipaajhokfaa
open Go.RowKit Go.Proofs.YtonbipaajhokfaaW.PrintWords Go.Proofs.YtonbipaajhokfaaW.PrintLast Go.Proofs.YtonbipaajhokfaaW.PrintMore
variable {St : Type}

theorem results_tct {P : Program} {fn : Func} {p u v : Tmp} {ty : TypeId} (h : fn.results = #[.tmp u, .cell p ty, .tmp v]) (tmps : Array Value) (w : World) (g : Nat) (t : TypeId) (cs : Array Value) (fr : Nat × Nat) (d : TypeDesc)
    (hp : tmps.getD p undef = .pointer (some ⟨g, 0, none⟩)) (hg : w.heap[g]? = some (.cells cs t fr))
    (hu : P.underlying ty = some d) (hd : (match d with | .struct _ | .array _ _ => true | _ => false) = true) (hi : (P.info? ty).map (·.size) = some cs.size) :
    (results fn tmps).run P w = .ok (.tuple #[tmps.getD u undef, .agg cs, tmps.getD v undef]) w := by
  have hp' : tmps[p]?.getD undef = .pointer (some ⟨g, 0, none⟩) := by simpa using hp
  simp [results, h, hp', asAddr, run_loadVar_row w g t ty cs fr d hg hu hd hi]

/-- A head. -/
structure Hd where
  mode : Int
  pages : Int
  trunk : Int
  spare : Int
  root : Int
  change : Int
  deriving DecidableEq
def Hd.v (h : Hd) : Value := .agg #[.int .i64 h.mode, .int .i64 h.pages, .int .i64 h.trunk, .int .i64 h.spare, .int .i64 h.root, .int .u64 h.change]
def Hd.zero : Hd := ⟨0, 0, 0, 0, 0, 0⟩
section
variable {w : World} {g : Nat} {t : TypeId} {x0 x1 x2 x3 x4 x5 : Value} {F : Nat → Prop} {s : St} {S : Shop St}
theorem put6 (h : w.heap[g]? = some (.cells #[x0, x1, x2, x3, x4, x5] t (0, 0))) (y0 y1 y2 y3 y4 y5 : Value) :
    ((((((w.setCell ⟨g, 0, none⟩ y0).setCell ⟨g, 1, none⟩ y1).setCell ⟨g, 2, none⟩ y2).setCell ⟨g, 3, none⟩ y3).setCell ⟨g, 4, none⟩ y4).setCell ⟨g, 5, none⟩ y5).heap[g]? = some (.cells #[y0, y1, y2, y3, y4, y5] t (0, 0)) :=
  blk_put (blk_put (blk_put (blk_put (blk_put (blk_put h 0 _ rfl) 1 _ rfl) 2 _ rfl) 3 _ rfl) 4 _ rfl) 5 _ rfl
theorem at6 (h : S.At w F s) (hn : ¬ F g) (y0 y1 y2 y3 y4 y5 : Value) :
    S.At ((((((w.setCell ⟨g, 0, none⟩ y0).setCell ⟨g, 1, none⟩ y1).setCell ⟨g, 2, none⟩ y2).setCell ⟨g, 3, none⟩ y3).setCell ⟨g, 4, none⟩ y4).setCell ⟨g, 5, none⟩ y5) F s :=
  Shop.far (Shop.far (Shop.far (Shop.far (Shop.far (Shop.far h hn _) hn _) hn _) hn _) hn _) hn _
theorem fr6 {w0 : World} (h : Fr F w0 w) (hn : F g ∨ w0.heap.size ≤ g) (y0 y1 y2 y3 y4 y5 : Value) :
    Fr F w0 ((((((w.setCell ⟨g, 0, none⟩ y0).setCell ⟨g, 1, none⟩ y1).setCell ⟨g, 2, none⟩ y2).setCell ⟨g, 3, none⟩ y3).setCell ⟨g, 4, none⟩ y4).setCell ⟨g, 5, none⟩ y5) :=
  (((((h.setCell (p := ⟨g, 0, none⟩) hn y0).setCell (p := ⟨g, 1, none⟩) hn y1).setCell (p := ⟨g, 2, none⟩) hn y2).setCell (p := ⟨g, 3, none⟩) hn y3).setCell (p := ⟨g, 4, none⟩) hn y4).setCell (p := ⟨g, 5, none⟩) hn y5
end
def cells6 (m p t sp r ch : Int) : Array Value := #[.int .i64 m, .int .i64 p, .int .i64 t, .int .i64 sp, .int .i64 r, .int .u64 ch]

set_option maxHeartbeats 4000000 in
set_option maxRecDepth 100000 in
theorem take_A (S : Shop St) (F : Nat → Prop) (s : St) (m p t sp r ch : Int) (w : World) (h : S.At w F s) (h0 : sp = 0) (hp : 4096 ≤ p) :
    Calls Try.prog 20 #[.agg #[.int .i64 m, .int .i64 p, .int .i64 t, .int .i64 sp, .int .i64 r, .int .u64 ch], .iface S.T S.x] w fun e w' => e = .returned (.tuple #[.int .i64 0, Hd.zero.v, .int .i64 22]) ∧ Goes (fun F' => S.At w' F' s) F w w' := by
  have H := Aside0.mk h
  have HB := Aside0.mk (S.bound h)
  have hu35 := Try.underlying35
  have t0 : (sp == 0) = true := by simp [h0]
  have t1 : decide (4096 ≤ p) = true := decide_eq_true hp
  clear h h0 hp
  go_enter Try.func20, Try.ntmps20
  go_wp2
  refine bodyPost_ret (results_tct rfl _ _ (w.heap.size + 1) 35 #[.int .i64 0, .int .i64 0, .int .i64 0, .int .i64 0, .int .i64 0, .int .u64 0] (0, 0) _ rfl ?_ Try.underlying35 rfl (by kernel_rfl)) rfl ?_
  · have := blk_new (w.alloc (.cells #[.int .i64 m, .int .i64 p, .int .i64 t, .int .i64 sp, .int .i64 r, .int .u64 ch] 35)) (.cells #[.int .i64 0, .int .i64 0, .int .i64 0, .int .i64 0, .int .i64 0, .int .u64 0] 35)
    simpa using this
  · exact ⟨rfl, F, Shop.below H.out (below_alloc (below_alloc (Below.refl _ _) _) _), fun k hk => Or.inl hk, ((Fr.refl F w).alloc _).alloc _⟩
set_option maxHeartbeats 4000000 in
set_option maxRecDepth 100000 in
theorem take_B (S : Shop St) (F : Nat → Prop) (s : St) (m p t sp r ch : Int) (w : World) (h : S.At w F s) (h0 : sp = 0) (hp0 : 0 ≤ p) (hp : p < 4096) :
    Calls Try.prog 20 #[.agg #[.int .i64 m, .int .i64 p, .int .i64 t, .int .i64 sp, .int .i64 r, .int .u64 ch], .iface S.T S.x] w fun e w' => e = .returned (.tuple #[.int .i64 p, (Hd.mk m (p + 1) t sp r ch).v, .int .i64 0]) ∧ Goes (fun F' => S.At w' F' s) F w w' := by
  have H := Aside0.mk h
  have HB := Aside0.mk (S.bound h)
  have hu35 := Try.underlying35
  have t0 : (sp == 0) = true := by simp [h0]
  have t1 : decide (4096 ≤ p) = false := decide_eq_false (by omega)
  clear h h0
  go_enter Try.func20, Try.ntmps20
  go_wp2_with fail
  go_region
  go_wp2
  refine bodyPost_ret (results_tct rfl _ _ (w.heap.size + 1) 35 #[.int .i64 m, .int .i64 (p + 1), .int .i64 t, .int .i64 sp, .int .i64 r, .int .u64 ch] (0, 0) _ rfl ?_ Try.underlying35 rfl (by kernel_rfl)) rfl ?_
  · have := blk_new (w.alloc (.cells #[.int .i64 m, .int .i64 (p + 1), .int .i64 t, .int .i64 sp, .int .i64 r, .int .u64 ch] 35)) (.cells #[.int .i64 m, .int .i64 (p + 1), .int .i64 t, .int .i64 sp, .int .i64 r, .int .u64 ch] 35)
    refine blk_drew ?_
    simpa using this
  · exact ⟨rfl, F, Shop.below H.out (below_drew (below_alloc (below_alloc (Below.refl _ _) _) _)), fun k hk => Or.inl hk, (((Fr.refl F w).alloc _).alloc _).then_below (below_drew (Below.refl _ _))⟩
end Go.Proofs.Ytonbipaajhokfaa
