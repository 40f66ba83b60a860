/-
  fresh and awake.
-/
import Derived.Test.YtonbipaajhokfaaC2
set_option linter.unusedVariables false
set_option linter.unusedSimpArgs false
namespace Go.Proofs.Ytonbipaajhokfaa
open Go.RowKit Go.Proofs.YtonbipaajhokfaaW.PrintWords Go.Proofs.YtonbipaajhokfaaW.PrintLast Go.Proofs.YtonbipaajhokfaaW.PrintMore

def Desk.new : Desk := ⟨[], [], -1⟩

set_option maxRecDepth 100000 in
theorem fresh_calls (w : World) :
    Calls Try.prog 18 #[] w fun e w' => ∃ kd kb, e = .returned (.pointer (some ⟨kd, 0, none⟩)) ∧ ∃ F : Nat → Prop, DeskAt kd kb w' F Desk.new ∧ (∀ k, F k → w.heap.size ≤ k) ∧ Below w.heap.size w w' := by
  go_enter Try.func18, Try.ntmps18
  go_wp2
  go_ret
  refine ⟨w.heap.size + 1, w.heap.size, rfl, fun k => w.heap.size ≤ k ∧ k < w.heap.size + 2, ⟨⟨by omega, by omega⟩, ?_, ⟨⟨⟨by omega, by omega⟩, by omega⟩, fun k hk => by have := hk.1.2; simp; omega, rfl, .slice none 0 0, .slice none 0 0, ?_, Kd.R_nil _ _ _ _ _, Kd.R_nil _ _ _ _ _⟩⟩, fun k hk => hk.1, ?_⟩
  · have := blk_new (w.alloc (.cells #[.slice none 0 0, .slice none 0 0] 43)) (.cells #[.pointer (some ⟨w.heap.size, 0, none⟩), .int .i64 (-1)] 47)
    simpa [Desk.new] using this
  · exact blk_alloc (blk_new w _) _
  · exact below_alloc (below_alloc (Below.refl _ _) _) _

/-- A store in state s at blocks F, all from B on, in a world that has kept what lay below B. -/
def Hold {St : Type} (S : Shop St) (B : Nat) (w0 w : World) (s : St) (F : Nat → Prop) : Prop :=
  S.At w F s ∧ (∀ k, F k → B ≤ k) ∧ Below B w0 w ∧ B ≤ w.heap.size
/-- What stood outside of F stands still, outside of F'. -/
def Past (F F' : Nat → Prop) (w w' : World) : Prop :=
  w.heap.size ≤ w'.heap.size ∧ ∀ k, k < w.heap.size → ¬ F k → ¬ F' k ∧ w'.heap[k]? = w.heap[k]?
theorem Past.blk {F F' : Nat → Prop} {w w' : World} {g : Nat} {o : Obj} (h : Past F F' w w') (hb : w.heap[g]? = some o) (hn : ¬ F g) : w'.heap[g]? = some o :=
  (h.2 g (blk_lt hb) hn).2.trans hb
theorem Past.out {F F' : Nat → Prop} {w w' : World} {g : Nat} {o : Obj} (h : Past F F' w w') (hb : w.heap[g]? = some o) (hn : ¬ F g) : ¬ F' g :=
  (h.2 g (blk_lt hb) hn).1
theorem Hold.goes {St : Type} {S : Shop St} {B : Nat} {w0 w w' : World} {s s' : St} {F : Nat → Prop} (h : Hold S B w0 w s F) (g : Goes (fun F' => S.At w' F' s') F w w') :
    ∃ F', Hold S B w0 w' s' F' ∧ Past F F' w w' := by
  obtain ⟨h1, h2, h3, h4⟩ := h
  obtain ⟨F', g1, g2, g3⟩ := g
  refine ⟨F', ⟨g1, fun k hk => ?_, h3.trans (g3.below h2 h4), Nat.le_trans h4 g3.size⟩, g3.size, fun k hk hn => ⟨fun hf => ?_, g3.block k hk hn⟩⟩
  · rcases g2 k hk with h | h
    · exact h2 k h
    · omega
  · rcases g2 k hf with h | h
    · exact hn h
    · omega
theorem Hold.take {St : Type} {S : Shop St} {B : Nat} {w0 w : World} {s : St} {F : Nat → Prop} (h : Hold S B w0 w s F) (hd : Hd) (hfit : S.fits s) (hp0 : 0 ≤ hd.pages) (hs0 : 0 ≤ hd.spare) (hs1 : hd.spare ≤ 4096) :
    Calls Try.prog 20 #[hd.v, .iface S.T S.x] w fun e w' => e = .returned (.tuple #[.int .i64 (S.take s hd).2.1, (S.take s hd).2.2.1.v, .int .i64 (S.take s hd).2.2.2]) ∧ ∃ F', Hold S B w0 w' (S.take s hd).1 F' ∧ Past F F' w w' :=
  (take_calls S F s hd w h.1 hfit hp0 hs0 hs1).mono fun _ _ hh => ⟨hh.1, h.goes hh.2⟩
theorem Hold.give {St : Type} {S : Shop St} {B : Nat} {w0 w : World} {s : St} {F : Nat → Prop} (h : Hold S B w0 w s F) (hd : Hd) (n : Int) (hfit : S.fits s) (hp0 : 0 ≤ hd.pages) (hp1 : hd.pages ≤ 4096) (hs0 : 0 ≤ hd.spare) :
    Calls Try.prog 22 #[hd.v, .iface S.T S.x, .int .i64 n] w fun e w' => e = .returned (.tuple #[(S.give s hd n).2.1.v, .int .i64 (S.give s hd n).2.2]) ∧ ∃ F', Hold S B w0 w' (S.give s hd n).1 F' ∧ Past F F' w w' :=
  (give_calls S F s hd n w h.1 hfit hp0 hp1 hs0).mono fun _ _ hh => ⟨hh.1, h.goes hh.2⟩
theorem Hold.below {St : Type} {S : Shop St} {B : Nat} {w0 w w' : World} {s : St} {F : Nat → Prop} (h : Hold S B w0 w s F) (hb : Below w.heap.size w w') : Hold S B w0 w' s F :=
  ⟨Shop.below h.1 hb, h.2.1, h.2.2.1.trans (hb.mono h.2.2.2), Nat.le_trans h.2.2.2 hb.size⟩
theorem Hold.set {St : Type} {S : Shop St} {B : Nat} {w0 w : World} {s : St} {F : Nat → Prop} (h : Hold S B w0 w s F) {p : Addr} (hp : ¬ F p.block) (hB : B ≤ p.block) (u : Value) : Hold S B w0 (w.setCell p u) s F :=
  ⟨Shop.far h.1 hp u, h.2.1, h.2.2.1.setCell hB u, by simpa using h.2.2.2⟩
theorem Hold.fresh {St : Type} {S : Shop St} {B : Nat} {w0 w : World} {s : St} {F : Nat → Prop} (h : Hold S B w0 w s F) : ¬ F w.heap.size := fun hf => by have := S.bound h.1 _ hf; omega
theorem Hold.set6 {St : Type} {S : Shop St} {B : Nat} {w0 w : World} {s : St} {F : Nat → Prop} (h : Hold S B w0 w s F) {g : Nat} (hp : ¬ F g) (hB : B ≤ g) (a b c d e f : Value) :
    Hold S B w0 ((((((w.setCell ⟨g, 0, none⟩ a).setCell ⟨g, 1, none⟩ b).setCell ⟨g, 2, none⟩ c).setCell ⟨g, 3, none⟩ d).setCell ⟨g, 4, none⟩ e).setCell ⟨g, 5, none⟩ f) s F :=
  (((((h.set (p := ⟨g, 0, none⟩) hp hB a).set (p := ⟨g, 1, none⟩) hp hB b).set (p := ⟨g, 2, none⟩) hp hB c).set (p := ⟨g, 3, none⟩) hp hB d).set (p := ⟨g, 4, none⟩) hp hB e).set (p := ⟨g, 5, none⟩) hp hB f
end Go.Proofs.Ytonbipaajhokfaa
