/-
  Walks: spare.trunk and spare.lay over any store that meets Shop.
-/
import Derived.Test.YtonbipaajhokfaaKB
set_option linter.unusedVariables false
set_option linter.unusedSimpArgs false
namespace Go.Proofs.Ytonbipaajhokfaa
open Go.RowKit Go.Proofs.YtonbipaajhokfaaW.PrintWords Go.Proofs.YtonbipaajhokfaaW.PrintLast Go.Proofs.YtonbipaajhokfaaW.PrintMore

/-- A store of pages behind an interface value: its two methods, where it stands in memory, what its calls answer. -/
structure Shop (St : Type) where
  T : TypeId
  x : Value
  fg : FuncId
  fp : FuncId
  mg : ∀ w, (method 227 T x "Get").run Try.prog w = .ok (fg, x) w
  mp : ∀ w, (method 227 T x "Put").run Try.prog w = .ok (fp, x) w
  eg : ∀ args w, (callFunc fg args).run Try.prog w = .ok (.enter fg args) w
  ep : ∀ args w, (callFunc fp args).run Try.prog w = .ok (.enter fp args) w
  At : World → (Nat → Prop) → St → Prop
  keep : ∀ {w w' F s}, At w F s → (∀ k, F k → w'.heap[k]? = w.heap[k]?) → w.heap.size ≤ w'.heap.size → At w' F s
  bound : ∀ {w F s}, At w F s → ∀ k, F k → k < w.heap.size
  fits : St → Prop
  get : St → Int → St × ByteArray × Int
  put : St → Int → ByteArray → St × Int
  fits_get : ∀ {s} (n : Int), fits s → fits (get s n).1
  cg : ∀ {w F s} (n : Int), At w F s → Calls Try.prog fg #[x, .int .i64 n] w fun e w' => e = .returned (.tuple #[.string (get s n).2.1, .int .i64 (get s n).2.2]) ∧ Goes (fun F' => At w' F' (get s n).1) F w w'
  cp : ∀ {w F s} (n : Int) (d : ByteArray), At w F s → fits s → Calls Try.prog fp #[x, .int .i64 n, .string d] w fun e w' => e = .returned (.int .i64 (put s n d).2) ∧ Goes (fun F' => At w' F' (put s n d).1) F w w'

theorem no324 : ∀ q : Nat, q ∈ 3 :: (Kd.int .i64).E → q ≠ 24 := fun q hq => by simp [Kd.int, Kd.scalar] at hq; omega
variable {St : Type}
theorem Shop.below {S : Shop St} {w w' : World} {F : Nat → Prop} {s : St} (h : S.At w F s) (hb : Below w.heap.size w w') : S.At w' F s :=
  S.keep h (fun k hk => hb.block k (S.bound h k hk)) hb.size
theorem Shop.far {S : Shop St} {w : World} {F : Nat → Prop} {s : St} (h : S.At w F s) {p : Addr} (hp : ¬ F p.block) (u : Value) : S.At (w.setCell p u) F s :=
  S.keep h (fun k hk => Below.heap_setCell w p u k (fun e => hp (e ▸ hk))) (by simp)

def Shop.trunk (S : Shop St) (s : St) (n : Int) : St × Int × List Int × Int :=
  let r := S.get s n
  if r.2.2 ≠ 0 then (r.1, 0, [], r.2.2) else (if decE1 r.2.1.data.toList ≠ 0 then (r.1, 0, [], 30) else (r.1, decN1 r.2.1.data.toList, decL1 r.2.1.data.toList, 0))

/-- What trunk leaves. -/
def TrunkPost (S : Shop St) (F : Nat → Prop) (w : World) (r : St × Int × List Int × Int) (e : Ending) (w' : World) : Prop :=
  ∃ v, e = .returned (.tuple #[.agg #[.int .i64 r.2.1, v], .int .i64 r.2.2.2]) ∧ ∃ F' : Nat → Prop, S.At w' F' r.1 ∧ (∀ k, F' k → F k ∨ w.heap.size ≤ k) ∧ Fr F w w' ∧
    (Kd.int .i64).R 3 w' 0 (fun k => ¬ F' k ∧ w.heap.size ≤ k) v r.2.2.1

set_option maxHeartbeats 2000000 in
set_option maxRecDepth 100000 in
theorem trunk_calls (S : Shop St) (F : Nat → Prop) (s : St) (n : Int) (w : World) (h : S.At w F s) :
    Calls Try.prog 44 #[.iface S.T S.x, .int .i64 n] w (TrunkPost S F w (S.trunk s n)) := by
  have hmg := S.mg
  have heg := S.eg
  have H := Aside0.mk h
  have HB := Aside0.mk (S.bound h)
  have hu24 := Try.underlying24
  clear h
  go_enter Try.func44, Try.ntmps44
  go_wp2_with fail
  refine (S.cg (F := F) (s := s) n (Shop.below H.out (below_alloc (Below.refl _ _) _))).mono ?_
  rintro e w1 ⟨rfl, F1, hA1, hF1, hR1⟩
  have h0 : w1.heap[w.heap.size]? = some (.cells #[.int .i64 0, .slice none 0 0] 24 (0, 0)) := hR1.blk (blk_new w _) (fun h => by have := HB.out _ h; omega)
  have hn0 : ¬ F1 w.heap.size := fun h => by
    rcases hF1 _ h with h1 | h1
    · have := HB.out _ h1; omega
    · simp at h1; omega
  have hRR := (Fr.of_below (F := F) (below_alloc (Below.refl w.heap.size w) (.cells #[.int .i64 0, .slice none 0 0] 24))).trans hR1 (fun _ _ h => h)
  have hFF : ∀ k, F1 k → F k ∨ w.heap.size ≤ k := fun k hk => (hF1 k hk).imp id (fun h => by simp at h; omega)
  clear hR1 hF1
  obtain ⟨b, hb⟩ : ∃ b, b = w.heap.size := ⟨_, rfl⟩
  rw [← hb] at h0 hn0 ⊢
  have HBW := Aside0.mk hb
  clear hb
  have HT : Aside0 (S.trunk s n = if (S.get s n).2.2 ≠ 0 then ((S.get s n).1, 0, [], (S.get s n).2.2) else (if decE1 (S.get s n).2.1.data.toList ≠ 0 then ((S.get s n).1, 0, [], 30) else ((S.get s n).1, decN1 (S.get s n).2.1.data.toList, decL1 (S.get s n).2.1.data.toList, 0))) := ⟨rfl⟩
  obtain ⟨⟨s1, p, er⟩, hr⟩ : ∃ r, r = S.get s n := ⟨_, rfl⟩
  rw [← hr] at hA1 HT ⊢
  clear hr
  have HA1 := Aside0.mk hA1
  have H0 := Aside0.mk h0
  have HN0 := Aside0.mk hn0
  have HRR := Aside0.mk hRR
  have HFF := Aside0.mk hFF
  clear hA1 h0 hn0 hRR hFF hmg heg
  by_cases he : er = 0
  · have ht : (er != 0) = false := by simp [he]
    cases he2 : decide (decE1 p.data.toList = 0) with
    | false =>
      have hne := of_decide_eq_false he2
      have HT2 := Aside0.mk (show S.trunk s n = (s1, 0, [], 30) by rw [HT.out]; simp [he, hne])
      have ht2 : (decE1 p.data.toList != 0) = true := by simp [hne]
      clear HT he2 hne he
      go_wp2_with fail
      refine (decode_calls p w1).mono ?_
      rintro e w2 ⟨v, rfl, hv, hb2⟩
      obtain ⟨A, c, rfl⟩ := Kd.R_slice hv
      have h0' := blk_below H0.out hb2
      have hc : ∀ o, (w2.alloc o).cell? ⟨b, 0, none⟩ = some (.int .i64 0) := fun o => (blk_cell (blk_alloc h0' o) 0).trans rfl
      have hc' : ∀ o, (w2.alloc o).cell? ⟨b, 1, none⟩ = some (.slice none 0 0) := fun o => (blk_cell (blk_alloc h0' o) 1).trans rfl
      have hf : ∀ o, (w2.alloc o).frozen? ⟨b, 0, none⟩ = false := fun o => blk_frozen (blk_alloc h0' o) 0
      have hf' : ∀ o, (w2.alloc o).frozen? ⟨b, 1, none⟩ = false := fun o => blk_frozen (blk_alloc h0' o) 1
      have H0' := Aside0.mk h0'
      have HB2 := Aside0.mk hb2
      have HV := Aside0.mk hv
      clear h0' hb2 hv
      go_wp2
      refine bodyPost_ret (results_ct rfl _ _ b 24 #[.int .i64 0, .slice none 0 0] (0, 0) _ rfl ?_ Try.underlying24 rfl (by kernel_rfl)) rfl ?_
      · exact blk_put (blk_put (blk_alloc H0'.out _) 0 _ rfl) 1 _ rfl
      · rw [HT2.out]
        refine ⟨_, rfl, F1, ?_, HFF.out, ?_, Kd.R_nil _ _ _ _ _⟩
        · exact Shop.far (Shop.far (Shop.below (Shop.below HA1.out HB2.out) (below_alloc (Below.refl _ _) _)) HN0.out _) HN0.out _
        · exact ((((HRR.out.then_below HB2.out).alloc _).setCell (Or.inr (by rw [HBW.out]; exact Nat.le_refl _)) _).setCell (Or.inr (by rw [HBW.out]; exact Nat.le_refl _)) _)
    | true =>
      have heq := of_decide_eq_true he2
      have HT2 := Aside0.mk (show S.trunk s n = (s1, decN1 p.data.toList, decL1 p.data.toList, 0) by rw [HT.out]; simp [he, heq])
      clear HT he2 he
      have hdc := fun W => decode_calls p W
      rw [heq] at hdc
      clear heq
      go_wp2_with fail
      refine (hdc w1).mono ?_
      rintro e w2 ⟨v, rfl, hv, hb2⟩
      obtain ⟨A, c, rfl⟩ := Kd.R_slice hv
      have h0' := blk_below H0.out hb2
      have hc : ∀ o, (w2.alloc o).cell? ⟨b, 0, none⟩ = some (.int .i64 0) := fun o => (blk_cell (blk_alloc h0' o) 0).trans rfl
      have hc' : ∀ o, (w2.alloc o).cell? ⟨b, 1, none⟩ = some (.slice none 0 0) := fun o => (blk_cell (blk_alloc h0' o) 1).trans rfl
      have hf : ∀ o, (w2.alloc o).frozen? ⟨b, 0, none⟩ = false := fun o => blk_frozen (blk_alloc h0' o) 0
      have hf' : ∀ o, (w2.alloc o).frozen? ⟨b, 1, none⟩ = false := fun o => blk_frozen (blk_alloc h0' o) 1
      have H0' := Aside0.mk h0'
      have HB2 := Aside0.mk hb2
      have HV := Aside0.mk hv
      clear h0' hb2 hv hdc
      go_wp2
      refine bodyPost_ret (results_ct rfl _ _ b 24 #[.int .i64 (decN1 p.data.toList), .slice A (decL1 p.data.toList).length c] (0, 0) _ rfl ?_ Try.underlying24 rfl (by kernel_rfl)) rfl ?_
      · exact blk_put (blk_put (blk_alloc H0'.out _) 0 _ rfl) 1 _ rfl
      · rw [HT2.out]
        refine ⟨_, rfl, F1, ?_, HFF.out, ?_, ?_⟩
        · exact Shop.far (Shop.far (Shop.below (Shop.below HA1.out HB2.out) (below_alloc (Below.refl _ _) _)) HN0.out _) HN0.out _
        · exact ((((HRR.out.then_below HB2.out).alloc _).setCell (Or.inr (by rw [HBW.out]; exact Nat.le_refl _)) _).setCell (Or.inr (by rw [HBW.out]; exact Nat.le_refl _)) _)
        · have hb1 := S.bound HA1.out
          have hs1 := HRR.out.size
          have h1 := Kd.R_mono (ok' := fun k => ¬ F1 k ∧ w.heap.size ≤ k) (Kd.R_bound HV.out) (fun k hk => ⟨fun hf => by have := hb1 k hf; have := hk.2.1; omega, by have := hk.2.1; omega⟩)
          have h2 := Kd.R_alloc (Kd.R_lower h1 (Nat.zero_le _)) (.cells #[.int .i64 (decN1 p.data.toList), .slice A (decL1 p.data.toList).length c] 24)
          have h3 := Kd.R_set h2 (blk_alloc H0'.out _) no324 0 (.int .i64 (decN1 p.data.toList))
          exact Kd.R_set h3 (blk_put (blk_alloc H0'.out _) 0 _ rfl) no324 1 _
  · have ht : (er != 0) = true := by simp [he]
    have HT2 := Aside0.mk (show S.trunk s n = (s1, 0, [], er) by rw [HT.out]; simp [he])
    clear HT he
    have hc := (blk_cell H0.out 0).trans rfl
    have hc' := (blk_cell H0.out 1).trans rfl
    have hf := blk_frozen H0.out 0
    have hf' := blk_frozen H0.out 1
    go_wp2
    refine bodyPost_ret (results_ct rfl _ _ b 24 #[.int .i64 0, .slice none 0 0] (0, 0) _ rfl ?_ Try.underlying24 rfl (by kernel_rfl)) rfl ?_
    · exact blk_put (blk_put H0.out 0 _ rfl) 1 _ rfl
    · rw [HT2.out]
      refine ⟨_, rfl, F1, ?_, HFF.out, ?_, Kd.R_nil _ _ _ _ _⟩
      · exact Shop.far (Shop.far HA1.out HN0.out _) HN0.out _
      · exact (HRR.out.setCell (Or.inr (by rw [HBW.out]; exact Nat.le_refl _)) _).setCell (Or.inr (by rw [HBW.out]; exact Nat.le_refl _)) _

def Shop.lay (S : Shop St) (s : St) (n : Int) (next : Int) (l : List Int) : St × Int :=
  if encOk next l then S.put s n (bs (trunkPage next l)) else (s, 30)

set_option maxHeartbeats 2000000 in
set_option maxRecDepth 100000 in
theorem lay_calls (S : Shop St) (F : Nat → Prop) (s : St) (n : Int) (next : Int) (A : Option Addr) (c : Nat) (l : List Int) (w : World) (h : S.At w F s) (hfit : S.fits s) (hl : Kd.C (Kd.int .i64) w A l.length l) (hlc : l.length ≤ c) :
    Calls Try.prog 45 #[.iface S.T S.x, .int .i64 n, .agg #[.int .i64 next, .slice A l.length c]] w fun e w' => e = .returned (.int .i64 (S.lay s n next l).2) ∧ Goes (fun F' => S.At w' F' (S.lay s n next l).1) F w w' := by
  have hmp := S.mp
  have hep := S.ep
  have H := Aside0.mk h
  have HB := Aside0.mk (S.bound h)
  have HL := Aside0.mk hl
  have hu24 := Try.underlying24
  have hcall := fun W => encode_calls next A c l W
  clear h hl
  cases hok : encOk next l with
  | false =>
    have HLY := Aside0.mk (show S.lay s n next l = (s, 30) by unfold Shop.lay; rw [hok]; rfl)
    have hE : encE next l = 1 := by unfold encE; rw [hok]; rfl
    rw [hE] at hcall
    clear hE hok
    go_enter Try.func45, Try.ntmps45
    go_wp2_with fail
    refine (hcall _ (Kd.C_alloc HL.out _) hlc).mono ?_
    rintro e w2 ⟨rfl, hb2⟩
    clear hcall
    go_wp2
    go_ret
    rw [HLY.out]
    exact ⟨rfl, F, Shop.below (Shop.below H.out (below_alloc (Below.refl _ _) _)) hb2, fun k hk => Or.inl hk, ((Fr.refl F w).alloc _).then_below hb2⟩
  | true =>
    have HLY := Aside0.mk (show S.lay s n next l = S.put s n (bs (trunkPage next l)) by unfold Shop.lay; rw [hok]; rfl)
    have hE : encE next l = 0 := by unfold encE; rw [hok]; rfl
    have hEB : encB next l = trunkPage next l := by unfold encB; rw [hok]; rfl
    rw [hE, hEB] at hcall
    clear hE hEB hok
    go_enter Try.func45, Try.ntmps45
    go_wp2_with fail
    refine (hcall _ (Kd.C_alloc HL.out _) hlc).mono ?_
    rintro e w2 ⟨rfl, hb2⟩
    clear hcall
    have HA := Aside0.mk (Shop.below (Shop.below H.out (below_alloc (Below.refl _ _) _)) hb2)
    have HR := Aside0.mk ((((Fr.refl F w).alloc (.cells #[.int .i64 next, .slice A l.length c] 24))).then_below hb2)
    clear hb2
    go_wp2_with fail
    refine (S.cp n (bs (trunkPage next l)) HA.out hfit).mono ?_
    rintro e w3 ⟨rfl, F3, hA3, hF3, hR3⟩
    clear hmp hep
    go_wp2
    go_ret
    rw [HLY.out]
    exact ⟨rfl, F3, hA3, fun k hk => (hF3 k hk).imp id (fun h => Nat.le_trans HR.out.size h), HR.out.trans hR3 (fun _ _ h => h)⟩
end Go.Proofs.Ytonbipaajhokfaa
/-
  Walk: spare.Take over any store.
-/
set_option linter.unusedVariables false
set_option linter.unusedSimpArgs false
namespace Go.Proofs.Ytonbipaajhokfaa
open Go.RowKit Go.Proofs.YtonbipaajhokfaaW.PrintWords Go.Proofs.YtonbipaajhokfaaW.PrintLast Go.Proofs.YtonbipaajhokfaaW.PrintMore
variable {St : Type}

theorem results_tct {P : Program} {fn : Func} {p u v : Tmp} {ty : TypeId} (h : fn.results = #[.tmp u, .cell p ty, .tmp v]) (tmps : Array Value) (w : World) (g : Nat) (t : TypeId) (cs : Array Value) (fr : Nat × Nat) (d : TypeDesc)
    (hp : tmps.getD p undef = .pointer (some ⟨g, 0, none⟩)) (hg : w.heap[g]? = some (.cells cs t fr))
    (hu : P.underlying ty = some d) (hd : (match d with | .struct _ | .array _ _ => true | _ => false) = true) (hi : (P.info? ty).map (·.size) = some cs.size) :
    (results fn tmps).run P w = .ok (.tuple #[tmps.getD u undef, .agg cs, tmps.getD v undef]) w := by
  have hp' : tmps[p]?.getD undef = .pointer (some ⟨g, 0, none⟩) := by simpa using hp
  simp [results, h, hp', asAddr, run_loadVar_row w g t ty cs fr d hg hu hd hi]

/-- A head. -/
structure Hd where
  mode : Int
  pages : Int
  trunk : Int
  spare : Int
  root : Int
  change : Int
  deriving DecidableEq
def Hd.v (h : Hd) : Value := .agg #[.int .i64 h.mode, .int .i64 h.pages, .int .i64 h.trunk, .int .i64 h.spare, .int .i64 h.root, .int .u64 h.change]
def Hd.zero : Hd := ⟨0, 0, 0, 0, 0, 0⟩
section
variable {w : World} {g : Nat} {t : TypeId} {x0 x1 x2 x3 x4 x5 : Value} {F : Nat → Prop} {s : St} {S : Shop St}
theorem put6 (h : w.heap[g]? = some (.cells #[x0, x1, x2, x3, x4, x5] t (0, 0))) (y0 y1 y2 y3 y4 y5 : Value) :
    ((((((w.setCell ⟨g, 0, none⟩ y0).setCell ⟨g, 1, none⟩ y1).setCell ⟨g, 2, none⟩ y2).setCell ⟨g, 3, none⟩ y3).setCell ⟨g, 4, none⟩ y4).setCell ⟨g, 5, none⟩ y5).heap[g]? = some (.cells #[y0, y1, y2, y3, y4, y5] t (0, 0)) :=
  blk_put (blk_put (blk_put (blk_put (blk_put (blk_put h 0 _ rfl) 1 _ rfl) 2 _ rfl) 3 _ rfl) 4 _ rfl) 5 _ rfl
theorem at6 (h : S.At w F s) (hn : ¬ F g) (y0 y1 y2 y3 y4 y5 : Value) :
    S.At ((((((w.setCell ⟨g, 0, none⟩ y0).setCell ⟨g, 1, none⟩ y1).setCell ⟨g, 2, none⟩ y2).setCell ⟨g, 3, none⟩ y3).setCell ⟨g, 4, none⟩ y4).setCell ⟨g, 5, none⟩ y5) F s :=
  Shop.far (Shop.far (Shop.far (Shop.far (Shop.far (Shop.far h hn _) hn _) hn _) hn _) hn _) hn _
theorem fr6 {w0 : World} (h : Fr F w0 w) (hn : F g ∨ w0.heap.size ≤ g) (y0 y1 y2 y3 y4 y5 : Value) :
    Fr F w0 ((((((w.setCell ⟨g, 0, none⟩ y0).setCell ⟨g, 1, none⟩ y1).setCell ⟨g, 2, none⟩ y2).setCell ⟨g, 3, none⟩ y3).setCell ⟨g, 4, none⟩ y4).setCell ⟨g, 5, none⟩ y5) :=
  (((((h.setCell (p := ⟨g, 0, none⟩) hn y0).setCell (p := ⟨g, 1, none⟩) hn y1).setCell (p := ⟨g, 2, none⟩) hn y2).setCell (p := ⟨g, 3, none⟩) hn y3).setCell (p := ⟨g, 4, none⟩) hn y4).setCell (p := ⟨g, 5, none⟩) hn y5
end
def cells6 (m p t sp r ch : Int) : Array Value := #[.int .i64 m, .int .i64 p, .int .i64 t, .int .i64 sp, .int .i64 r, .int .u64 ch]

set_option maxHeartbeats 4000000 in
set_option maxRecDepth 100000 in
theorem take_A (S : Shop St) (F : Nat → Prop) (s : St) (m p t sp r ch : Int) (w : World) (h : S.At w F s) (h0 : sp = 0) (hp : 4096 ≤ p) :
    Calls Try.prog 20 #[.agg #[.int .i64 m, .int .i64 p, .int .i64 t, .int .i64 sp, .int .i64 r, .int .u64 ch], .iface S.T S.x] w fun e w' => e = .returned (.tuple #[.int .i64 0, Hd.zero.v, .int .i64 22]) ∧ Goes (fun F' => S.At w' F' s) F w w' := by
  have H := Aside0.mk h
  have HB := Aside0.mk (S.bound h)
  have hu35 := Try.underlying35
  have t0 : (sp == 0) = true := by simp [h0]
  have t1 : decide (4096 ≤ p) = true := decide_eq_true hp
  clear h h0 hp
  go_enter Try.func20, Try.ntmps20
  go_wp2
  refine bodyPost_ret (results_tct rfl _ _ (w.heap.size + 1) 35 #[.int .i64 0, .int .i64 0, .int .i64 0, .int .i64 0, .int .i64 0, .int .u64 0] (0, 0) _ rfl ?_ Try.underlying35 rfl (by kernel_rfl)) rfl ?_
  · have := blk_new (w.alloc (.cells #[.int .i64 m, .int .i64 p, .int .i64 t, .int .i64 sp, .int .i64 r, .int .u64 ch] 35)) (.cells #[.int .i64 0, .int .i64 0, .int .i64 0, .int .i64 0, .int .i64 0, .int .u64 0] 35)
    simpa using this
  · exact ⟨rfl, F, Shop.below H.out (below_alloc (below_alloc (Below.refl _ _) _) _), fun k hk => Or.inl hk, ((Fr.refl F w).alloc _).alloc _⟩
set_option maxHeartbeats 4000000 in
set_option maxRecDepth 100000 in
theorem take_B (S : Shop St) (F : Nat → Prop) (s : St) (m p t sp r ch : Int) (w : World) (h : S.At w F s) (h0 : sp = 0) (hp0 : 0 ≤ p) (hp : p < 4096) :
    Calls Try.prog 20 #[.agg #[.int .i64 m, .int .i64 p, .int .i64 t, .int .i64 sp, .int .i64 r, .int .u64 ch], .iface S.T S.x] w fun e w' => e = .returned (.tuple #[.int .i64 p, (Hd.mk m (p + 1) t sp r ch).v, .int .i64 0]) ∧ Goes (fun F' => S.At w' F' s) F w w' := by
  have H := Aside0.mk h
  have HB := Aside0.mk (S.bound h)
  have hu35 := Try.underlying35
  have t0 : (sp == 0) = true := by simp [h0]
  have t1 : decide (4096 ≤ p) = false := decide_eq_false (by omega)
  clear h h0
  go_enter Try.func20, Try.ntmps20
  go_wp2_with fail
  go_region
  go_wp2
  refine bodyPost_ret (results_tct rfl _ _ (w.heap.size + 1) 35 #[.int .i64 m, .int .i64 (p + 1), .int .i64 t, .int .i64 sp, .int .i64 r, .int .u64 ch] (0, 0) _ rfl ?_ Try.underlying35 rfl (by kernel_rfl)) rfl ?_
  · have := blk_new (w.alloc (.cells #[.int .i64 m, .int .i64 (p + 1), .int .i64 t, .int .i64 sp, .int .i64 r, .int .u64 ch] 35)) (.cells #[.int .i64 m, .int .i64 (p + 1), .int .i64 t, .int .i64 sp, .int .i64 r, .int .u64 ch] 35)
    refine blk_drew ?_
    simpa using this
  · exact ⟨rfl, F, Shop.below H.out (below_drew (below_alloc (below_alloc (Below.refl _ _) _) _)), fun k hk => Or.inl hk, (((Fr.refl F w).alloc _).alloc _).then_below (below_drew (Below.refl _ _))⟩
end Go.Proofs.Ytonbipaajhokfaa
