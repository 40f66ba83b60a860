/-
  PROVED: cahierlaw11.ChainReads answers true at every slice of strings and cell, and its arguments read as they did. Conditions of the card: the two listed tables (unicode/utf8.acceptRanges, unicode/utf8.first) read as the program's text lays them.
-/
import Derived.Test.YtonbipaajhokfaaGreatDoorERq13
import Derived.Test.YtonbipaajhokfaaGreatDoorCards
import Derived.Test.YtonbipaajhokfaaGreatDoorTie
import Derived.ProofKit
import Derived.SliceStrings
import Derived.OpenShut
import Derived.LaidMore
import Derived.Lay
import Derived.SevenTiedAt
import Derived.Stop.Joined
namespace Go.Proofs.YtonbipaajhokfaaGreatDoor.chainReads
open Go.ChangeShapes Go.WideShapes Go.ChangeAt Go.RowKit
open Go.Proofs.YtonbipaajhokfaaGreatDoorW.PrintWords
open Go.ChangeMaps (open_string shut_string)
set_option linter.unusedVariables false
theorem laidOut : laidOutB Tryz.prog = true := by kernel_rfl
theorem cells9 : Tryz.prog.cellsOf 9 = 1 := by kernel_rfl
theorem S_opened {W : World} {a : Addr} {len cap : Nat} {zs : List ByteArray} (hl : len ≤ cap) (hm : cap ≤ maxLen) (hz : zs.length = cap) (hcell : ∀ i, i < zs.length → W.cell? (a.add i) = some (.string (zs.getD i ByteArray.empty))) :
    Kd.C Kd.string W (some a) (zs.take len).length (zs.take len) := by
  have h1 : (zs.take len).length = len := by rw [List.length_take]; omega
  refine Kd.C_of_reads (d := ByteArray.empty) ⟨rfl, ?_, fun hp => ⟨a, rfl, fun j hj => ?_⟩⟩
  · rw [h1]; unfold maxLen at hm; omega
  · rw [hcell j (by omega)]
    rw [List.getD_eq_getElem?_getD, List.getD_eq_getElem?_getD, List.getElem?_take_of_lt (by omega)]
theorem cellsC : Tryz.prog.cellsOf 24 = 3 := by kernel_rfl
section
variable {H : Type} {enc : TypeId × Value → H} {W : World} {base : Nat} {sp : Nat → Bool} {held : Bool}
set_option maxRecDepth 100000 in
theorem cell_opened {r : Reach} {b0 : Nat} {v : Value} {d : DataW H} {p : List MemPlace} (hv : Value.okWide Tryz.prog W r b0 24 v) (h : DataW.Trod enc Tryz.prog W base sp held 24 v d p) :
    ∃ (m : Int) (q : ByteArray) (t : Int), v = .agg #[.int .i64 m, .string q, .int .i64 t] := by
  obtain ⟨cs, rfl, hsz⟩ := okWide_struct Tryz.underlying24 hv
  obtain ⟨l⟩ := cs
  obtain ⟨fuel, hf⟩ := h
  obtain ⟨xs, n, -, -, -, hlen, hg⟩ := DataW.trod_struct Tryz.underlying24 hf
  match l, hsz.trans cellsC with
  | [c0, c1, c2], _ =>
    have some_ : ∀ j, j < 3 → xs[j]? = some (xs.getD j (.nil, [])) := fun j hj => by
      have : j < xs.length := by rw [hlen]; exact hj
      rw [List.getD_eq_getElem?_getD, List.getElem?_eq_getElem this]; rfl
    have g0 : DataW.trod enc Tryz.prog W base sp held n 3 [c0] = xs[0]? := hg 0 _ rfl
    have g1 : DataW.trod enc Tryz.prog W base sp held n 9 [c1] = xs[1]? := hg 1 _ rfl
    have g2 : DataW.trod enc Tryz.prog W base sp held n 3 [c2] = xs[2]? := hg 2 _ rfl
    rw [some_ 0 (by decide)] at g0
    rw [some_ 1 (by decide)] at g1
    rw [some_ 2 (by decide)] at g2
    obtain ⟨k, e0, -, -⟩ := DataW.trod_int Tryz.underlying3 g0
    obtain ⟨s, e1, -, -⟩ := DataW.trod_string Tryz.underlying9 g1
    obtain ⟨m, e2, -, -⟩ := DataW.trod_int Tryz.underlying3 g2
    simp only [List.cons.injEq, and_true] at e0 e1 e2
    exact ⟨k, s, m, by rw [e0, e1, e2]⟩
end
theorem own : ownKnob Tryz.prog.godebug = none := by kernel_rfl
set_option maxRecDepth 100000 in
theorem lifted (os : Os) (started : os.Started) (H : Type) (enc : TypeId × Value → H) :
    ReturnsInHanded {} Tryz.checked os 3 .any (fun w args => (Rows.chainReadsSpec.pre enc Tryz.prog Tryz.f3 Rows.chainReadsRow.domain false w args ∧ laidMetH Tryz.prog Rows.chainReadsRow.laid w) ∧ sizedMet enc Tryz.prog Tryz.f3 (OpenSpec.ofChange Rows.chainReadsSpec) false w args)
      (Rows.chainReadsSpec.post enc Tryz.prog Tryz.f3 false true false false) := by
  refine returnsInHanded_of_change_and (C := Tryz.checked) (X := fun w _ => laidMetH Tryz.prog Rows.chainReadsRow.laid w) (fun _ _ _ hh h => h.of_heap hh) own started (by kernel_rfl) Tryz.func3
    (ChangeSpec.witness_shaped (enc := enc) (C := Tryz.checked) (os := os) (X := fun w _ => laidMetH Tryz.prog Rows.chainReadsRow.laid w) false (World.laidAll Tryz.prog os Rows.chainReadsRow.laid) #[.slice none 0 0, .agg #[.int .i64 0, .string ⟨#[]⟩, .int .i64 0]] 8 (World.laidAll_os _ _ _)
      (World.shaped_of_ZipB (by kernel_rfl) (by kernel_rfl)) (by kernel_rfl) (by kernel_rfl) (by kernel_rfl)
      (by rw [MakeChecks.laidMetH_plain _ _ _ (by kernel_rfl)]; exact laidMet_laidAll _ (by kernel_rfl) (by kernel_rfl))) ?_
  intro W base args ds gs before hval0 hW hc _ hL _
  have hval : ∀ (j : Nat) t v, Tryz.f3.params[j]? = some t → args[j]? = some v → Value.okWide Tryz.prog W .any base t v := hval0
  have hW' := hW
  obtain ⟨p, q, hA0, hV, rfl, _, _⟩ := hW
  have hA : DataW.TrodAll enc Tryz.prog W 0 (fun _ => true) true Tryz.f3.params.toList args.toList ds p := hA0
  rw [Tryz.params3] at hA hval
  obtain ⟨v0, v1, d0, d1, p0, p1, rfl, rfl, rfl, h0, h1⟩ := trodAll_two hA
  obtain ⟨rfl, rfl⟩ := trodVars_none hV
  have h0k := h0
  obtain ⟨fuel, hf⟩ := h0
  obtain ⟨a0, len, cap, rfl⟩ := okWide_slice Tryz.underlying22 (hval 0 22 v0 rfl rfl)
  have h1k := h1
  obtain ⟨x0, x1, x2, rfl⟩ := cell_opened (hval 1 24 v1 rfl rfl) h1
  clear hA0 hval0
  simp only [List.append_nil] at hW'
  have hlt : ∀ x, x ∈ p0 ∨ x ∈ p1 → x.block < W.heap.size := fun x hx => by have := hW'.lt x (by simpa using hx); simpa using this
  obtain ⟨l, rfl, hl, hs⟩ : ∃ l : List ByteArray, l.length = len ∧ Kd.C Kd.string W a0 len l ∧ ∀ j : Nat, j < l.length → (rdOf ByteArray.empty l (j : Int)).size ≤ 9223372036854775807 := by
    rcases open_strings Tryz.underlying22 Tryz.underlying9 cells9 hf with ⟨hcs, hx⟩ | ⟨a, len', cap', ss, hcs, _, hl, hm, hz, hx, hcell, hsz⟩
    · simp [Value.cells] at hcs
      obtain ⟨rfl, rfl, rfl⟩ := hcs
      exact ⟨[], rfl, Kd.C_nil _ _, fun j h => absurd h (by simp)⟩
    · simp [Value.cells] at hcs
      obtain ⟨rfl, rfl, rfl⟩ := hcs
      simp only [if_true] at hz
      have h1 : (ss.take len).length = len := by rw [List.length_take]; omega
      have h2 := S_opened hl hm hz hcell
      rw [h1] at h2
      refine ⟨_, h1, h2, fun j hj => ?_⟩
      rw [h1] at hj
      have hlt : j < ss.length := by omega
      have e : rdOf ByteArray.empty (ss.take len) (j : Int) = ss[j] := by
        unfold rdOf
        rw [Int.toNat_natCast, List.getD_eq_getElem?_getD, List.getElem?_take_of_lt (by omega), List.getElem?_eq_getElem hlt]
        rfl
      rw [e]
      have := hsz _ (List.getElem_mem hlt)
      unfold maxLen at this
      omega
  refine (chainReads_calls a0 cap l x0 x1 x2 W hl).mono fun e W' ⟨he, hg⟩ => ?_
  subst he
  have hargs : DataW.Trod enc Tryz.prog W' 0 (fun b => decide (b < W.heap.size)) true 22 (.slice a0 l.length cap) _ _ :=
    Below.trod laidOut (by kernel_rfl) (of_decide_eq_true (by kernel_rfl)) h0k hg (fun x hx => hlt x (Or.inl hx))
  have hargs1 : DataW.Trod enc Tryz.prog W' 0 (fun b => decide (b < W.heap.size)) true 24 (.agg #[.int .i64 x0, .string x1, .int .i64 x2]) _ _ :=
    Below.trod laidOut (by kernel_rfl) (of_decide_eq_true (by kernel_rfl)) h1k hg (fun x hx => hlt x (Or.inr hx))
  exact ⟨_, rfl, ⟨_, _, _, [], _, [], hW', trodAll_mk1 (shut_bool Tryz.underlying4 _), trodAll_mk2 hargs hargs1, rfl, hg.frame _, fun h => by cases h⟩⟩
theorem holds : Rows.ChainReadsSaid :=
  OpenClaim.holds_of_wide 3 Tryz.f3 rfl rfl rfl rfl rfl rfl rfl ⟨rfl, rfl, rfl, rfl, rfl⟩ rfl rfl rfl rfl rfl (by kernel_rfl) Tryz.func3 (by kernel_rfl)
    (of_decide_eq_true (by kernel_rfl)) (by unfold Func.isWrapper; first | (rw [if_pos (by decide +kernel)]; kernel_rfl) | (rw [if_neg (by decide +kernel)]; exact ⟨rfl, rfl⟩))
    (fun os started H enc _ => lifted os started H enc)
theorem proved : Rows.ChainReadsCardSaid :=
  Claim7.holds_tied_plain_at .later [] [.data, .pinned] true (true, "2a5ab87320c2792922f647d1614323d6cce105328f7451100fe99c81ac964361") false holds (fun _ h => by cases h) (by kernel_rfl) (fun _ h => by cases h) chainReads_row_tie rfl ⟨rfl, rfl⟩ (by kernel_rfl) rfl
    (fun f fn hf hfn => by
      obtain rfl : f = 3 := Option.some.inj ((show Tryz.prog.funcNamed "cahier/cahierlaw11.ChainReads" = some 3 by kernel_rfl).symm.trans hf) |>.symm
      obtain rfl : fn = Tryz.f3 := (Option.some.inj (Tryz.func3.symm.trans hfn)).symm
      exact ⟨by kernel_rfl, fun j t ht => by
        rw [Tryz.params3] at ht
        have hm : t ∈ [22, 24] := by simpa using Array.mem_of_getElem? ht
        have hall : ([22, 24].all fun u => !Tryz.prog.wantsStandIn u) = true := by kernel_rfl
        exact (show Tryz.prog.wantsStandIn t = false by simpa using List.all_eq_true.1 hall t hm)⟩)
    (by kernel_rfl)
#print axioms proved
end Go.Proofs.YtonbipaajhokfaaGreatDoor.chainReads
