/-
  No cell of these rows narrows 'for every input' (looked for: loops, veiled, ifaces, maps, wideKeys, modest, calm, conditions, laid).
  DERIVED. THE GIVEN ROWS OF THIS SEAT. 8 by the template 'for every input the law returns true; each argument reads behind the call as it read before'; 0 by the template 'total and deterministic' (their statements: YtonbipaajhokfaaTotals.lean).
  GIVEN WITH THE SEED: the statements are not yours to turn. If you find one false, say at which input.
  Laid BY PROGRAM, IN A SANDBOX (cutbox-rows.mjs): the forced cells as the released guide's own fill.sh prints them over the translation 0024911778d297a4… (all of the seat's roots in one cut). By AI agents, Wed Nov 11 2026. No macro, syntax, notation, axiom, sorry.
-/
import Derived.Test.YtonbipaajhokfaaChecked
import GoSem.Claim
import GoSem.ClaimJoined
import GoSem.ClaimMapViews
import Derived.JoinedTies
import Derived.KernelRfl
namespace Go.Proofs.Ytonbipaajhokfaa
/- THE CELL 'sum', in the pinned program and in every row, IS THE sha256 OF THE DUMP (.gsa) THAT YtonbipaajhokfaaProg.lean LOADS. Nothing in Lean hashes anything: it is a label: what it is worth is what the hold of that sum in a sandbox is worth. -/
noncomputable def Try.pinned : Pinned := { name := "ytonbipaajhokfaa", sum := "0024911778d297a45dcf39a498ccb20da64d7f1dc17dd18a5b85615d6200e458", checked := Try.checked }
namespace Rows
def none {H : Type} : Left H := { results := [], args := [] }

/-- 'cahierlaw09.SparePages': WHATEVER THE INPUT: true; the input reads as it did. -/
def sparePagesSpec : ChangeSpec := { name := "sparePages", fn := fun _ => fun
  | [d1, d2] => { results := [.lit (.bool true)], args := [d1, d2] }
  | _ => none }
def sparePagesRow : OpenClaim := { program := "ytonbipaajhokfaa", sum := "0024911778d297a45dcf39a498ccb20da64d7f1dc17dd18a5b85615d6200e458", func := "cahier/cahierlaw09.SparePages", spec := "sparePages", inPlace := ["internal/abi.NoEscape", "internal/bytealg.MakeNoZero"], unfollowed := true, recurses := true, apart := false }
def SparePagesSaid : Prop := sparePagesRow.holds Try.pinned (OpenSpec.ofChange sparePagesSpec)

/-- ITS FALSE NEIGHBOUR: 'it returns false'. Refute it at one input. -/
def sparePagesWrong : ChangeSpec := { name := "sparePages", fn := fun _ => fun
  | [d1, d2] => { results := [.lit (.bool false)], args := [d1, d2] }
  | _ => none }
def SparePagesWrongFalsely : Prop := sparePagesRow.holds Try.pinned (OpenSpec.ofChange sparePagesWrong)

/-- 'cahierlaw09.SpareExact': WHATEVER THE INPUT: true; the input reads as it did. -/
def spareExactSpec : ChangeSpec := { name := "spareExact", fn := fun _ => fun
  | [d1, d2, d3] => { results := [.lit (.bool true)], args := [d1, d2, d3] }
  | _ => none }
def spareExactRow : OpenClaim := { program := "ytonbipaajhokfaa", sum := "0024911778d297a45dcf39a498ccb20da64d7f1dc17dd18a5b85615d6200e458", func := "cahier/cahierlaw09.SpareExact", spec := "spareExact", inPlace := ["internal/abi.NoEscape", "internal/bytealg.MakeNoZero"], unfollowed := true, recurses := true, apart := false }
def SpareExactSaid : Prop := spareExactRow.holds Try.pinned (OpenSpec.ofChange spareExactSpec)

/-- ITS FALSE NEIGHBOUR: 'it returns false'. Refute it at one input. -/
def spareExactWrong : ChangeSpec := { name := "spareExact", fn := fun _ => fun
  | [d1, d2, d3] => { results := [.lit (.bool false)], args := [d1, d2, d3] }
  | _ => none }
def SpareExactWrongFalsely : Prop := spareExactRow.holds Try.pinned (OpenSpec.ofChange spareExactWrong)

/-- 'cahierlaw09.SpareOnce': WHATEVER THE INPUT: true; the input reads as it did. -/
def spareOnceSpec : ChangeSpec := { name := "spareOnce", fn := fun _ => fun
  | [d] => { results := [.lit (.bool true)], args := [d] }
  | _ => none }
def spareOnceRow : OpenClaim := { program := "ytonbipaajhokfaa", sum := "0024911778d297a45dcf39a498ccb20da64d7f1dc17dd18a5b85615d6200e458", func := "cahier/cahierlaw09.SpareOnce", spec := "spareOnce", inPlace := ["internal/abi.NoEscape", "internal/bytealg.MakeNoZero"], unfollowed := true, recurses := true, apart := false }
def SpareOnceSaid : Prop := spareOnceRow.holds Try.pinned (OpenSpec.ofChange spareOnceSpec)

/-- ITS FALSE NEIGHBOUR: 'it returns false'. Refute it at one input. -/
def spareOnceWrong : ChangeSpec := { name := "spareOnce", fn := fun _ => fun
  | [d] => { results := [.lit (.bool false)], args := [d] }
  | _ => none }
def SpareOnceWrongFalsely : Prop := spareOnceRow.holds Try.pinned (OpenSpec.ofChange spareOnceWrong)

/-- 'cahierlaw09.SpareBack': WHATEVER THE INPUT: true; the input reads as it did. -/
def spareBackSpec : ChangeSpec := { name := "spareBack", fn := fun _ => fun
  | [d] => { results := [.lit (.bool true)], args := [d] }
  | _ => none }
def spareBackRow : OpenClaim := { program := "ytonbipaajhokfaa", sum := "0024911778d297a45dcf39a498ccb20da64d7f1dc17dd18a5b85615d6200e458", func := "cahier/cahierlaw09.SpareBack", spec := "spareBack", inPlace := ["internal/abi.NoEscape", "internal/bytealg.MakeNoZero"], unfollowed := true, recurses := true, apart := false }
def SpareBackSaid : Prop := spareBackRow.holds Try.pinned (OpenSpec.ofChange spareBackSpec)

/-- ITS FALSE NEIGHBOUR: 'it returns false'. Refute it at one input. -/
def spareBackWrong : ChangeSpec := { name := "spareBack", fn := fun _ => fun
  | [d] => { results := [.lit (.bool false)], args := [d] }
  | _ => none }
def SpareBackWrongFalsely : Prop := spareBackRow.holds Try.pinned (OpenSpec.ofChange spareBackWrong)

/-- 'cahierlaw09.SpareFails': WHATEVER THE INPUT: true; the input reads as it did. -/
def spareFailsSpec : ChangeSpec := { name := "spareFails", fn := fun _ => fun
  | [d1, d2, d3] => { results := [.lit (.bool true)], args := [d1, d2, d3] }
  | _ => none }
def spareFailsRow : OpenClaim := { program := "ytonbipaajhokfaa", sum := "0024911778d297a45dcf39a498ccb20da64d7f1dc17dd18a5b85615d6200e458", func := "cahier/cahierlaw09.SpareFails", spec := "spareFails", inPlace := ["internal/abi.NoEscape", "internal/bytealg.MakeNoZero"], unfollowed := true, recurses := true, apart := false }
def SpareFailsSaid : Prop := spareFailsRow.holds Try.pinned (OpenSpec.ofChange spareFailsSpec)

/-- ITS FALSE NEIGHBOUR: 'it returns false'. Refute it at one input. -/
def spareFailsWrong : ChangeSpec := { name := "spareFails", fn := fun _ => fun
  | [d1, d2, d3] => { results := [.lit (.bool false)], args := [d1, d2, d3] }
  | _ => none }
def SpareFailsWrongFalsely : Prop := spareFailsRow.holds Try.pinned (OpenSpec.ofChange spareFailsWrong)

/-- 'cahierlaw10.ShelfKeeps': WHATEVER THE INPUT: true; the input reads as it did. -/
def shelfKeepsSpec : ChangeSpec := { name := "shelfKeeps", fn := fun _ => fun
  | [d] => { results := [.lit (.bool true)], args := [d] }
  | _ => none }
def shelfKeepsRow : OpenClaim := { program := "ytonbipaajhokfaa", sum := "0024911778d297a45dcf39a498ccb20da64d7f1dc17dd18a5b85615d6200e458", func := "cahier/cahierlaw10.ShelfKeeps", spec := "shelfKeeps", inPlace := ["internal/abi.NoEscape", "internal/bytealg.MakeNoZero"], unfollowed := true, recurses := true, apart := false }
def ShelfKeepsSaid : Prop := shelfKeepsRow.holds Try.pinned (OpenSpec.ofChange shelfKeepsSpec)

/-- ITS FALSE NEIGHBOUR: 'it returns false'. Refute it at one input. -/
def shelfKeepsWrong : ChangeSpec := { name := "shelfKeeps", fn := fun _ => fun
  | [d] => { results := [.lit (.bool false)], args := [d] }
  | _ => none }
def ShelfKeepsWrongFalsely : Prop := shelfKeepsRow.holds Try.pinned (OpenSpec.ofChange shelfKeepsWrong)

/-- 'cahierlaw10.ShelfFails': WHATEVER THE INPUT: true; the input reads as it did. -/
def shelfFailsSpec : ChangeSpec := { name := "shelfFails", fn := fun _ => fun
  | [d1, d2, d3] => { results := [.lit (.bool true)], args := [d1, d2, d3] }
  | _ => none }
def shelfFailsRow : OpenClaim := { program := "ytonbipaajhokfaa", sum := "0024911778d297a45dcf39a498ccb20da64d7f1dc17dd18a5b85615d6200e458", func := "cahier/cahierlaw10.ShelfFails", spec := "shelfFails", inPlace := ["internal/abi.NoEscape", "internal/bytealg.MakeNoZero"], unfollowed := true, recurses := true, apart := false }
def ShelfFailsSaid : Prop := shelfFailsRow.holds Try.pinned (OpenSpec.ofChange shelfFailsSpec)

/-- ITS FALSE NEIGHBOUR: 'it returns false'. Refute it at one input. -/
def shelfFailsWrong : ChangeSpec := { name := "shelfFails", fn := fun _ => fun
  | [d1, d2, d3] => { results := [.lit (.bool false)], args := [d1, d2, d3] }
  | _ => none }
def ShelfFailsWrongFalsely : Prop := shelfFailsRow.holds Try.pinned (OpenSpec.ofChange shelfFailsWrong)

/-- 'cahierlaw10.ShelfOnce': WHATEVER THE INPUT: true; the input reads as it did. -/
def shelfOnceSpec : ChangeSpec := { name := "shelfOnce", fn := fun _ => fun
  | [d1, d2] => { results := [.lit (.bool true)], args := [d1, d2] }
  | _ => none }
def shelfOnceRow : OpenClaim := { program := "ytonbipaajhokfaa", sum := "0024911778d297a45dcf39a498ccb20da64d7f1dc17dd18a5b85615d6200e458", func := "cahier/cahierlaw10.ShelfOnce", spec := "shelfOnce", inPlace := ["internal/abi.NoEscape", "internal/bytealg.MakeNoZero"], unfollowed := true, recurses := true, apart := false }
def ShelfOnceSaid : Prop := shelfOnceRow.holds Try.pinned (OpenSpec.ofChange shelfOnceSpec)

/-- ITS FALSE NEIGHBOUR: 'it returns false'. Refute it at one input. -/
def shelfOnceWrong : ChangeSpec := { name := "shelfOnce", fn := fun _ => fun
  | [d1, d2] => { results := [.lit (.bool false)], args := [d1, d2] }
  | _ => none }
def ShelfOnceWrongFalsely : Prop := shelfOnceRow.holds Try.pinned (OpenSpec.ofChange shelfOnceWrong)

/- THE SECOND FORM. 'bulk': how many values and letters a reading holds, each counted each time it is reached (what is shared counts as often as it is met; a slice's spare places count too). A statement '..UptoSaid' is the law's where the arguments, and the package variables that the reading takes, are together of bulk at most 1048576: NARROWER than '..Said'. Prove '..Said' where nothing that the law and all that it calls make is longer than what came in: it says more and counts as full. Else prove '..UptoSaid'. A law counts once. -/
mutual
def uptoBulk {H : Type} : DataW H → Nat
  | .lit (.string bytes) => bytes.length + 1
  | .lit _ => 1
  | .nil => 1
  | .ptr d => uptoBulk d + 1
  | .slice elems spare => uptoBulkAll elems + uptoBulkAll spare + 1
  | .agg parts => uptoBulkAll parts + 1
  | .iface _ d => uptoBulk d + 1
  | .map entries => uptoBulkEntries entries + 1
  | .held _ => 1
def uptoBulkAll {H : Type} : List (DataW H) → Nat
  | [] => 0
  | d :: r => uptoBulk d + uptoBulkAll r
def uptoBulkEntries {H : Type} : List (Lit × DataW H) → Nat
  | [] => 0
  | x :: r => uptoBulkEntry x + uptoBulkEntries r
def uptoBulkEntry {H : Type} : Lit × DataW H → Nat
  | (.string bytes, d) => bytes.length + uptoBulk d + 1
  | (_, d) => uptoBulk d + 1
 end
def uptoSmall : (H : Type) → List (DataW H) → Bool := fun _ ds => decide (uptoBulkAll ds ≤ 1048576)
def OpenSpec.upto (s : _root_.Go.ChangeSpec) : _root_.Go.OpenSpec := { _root_.Go.OpenSpec.ofChange s with cond := some uptoSmall }

/-- 'cahierlaw09.SparePages', WHERE WHAT IT READS IS OF BULK AT MOST 1048576: true; the input reads as it did. -/
def sparePagesUptoRow : OpenClaim := { program := "ytonbipaajhokfaa", sum := "0024911778d297a45dcf39a498ccb20da64d7f1dc17dd18a5b85615d6200e458", func := "cahier/cahierlaw09.SparePages", spec := "sparePages", inPlace := ["internal/abi.NoEscape", "internal/bytealg.MakeNoZero"], unfollowed := true, recurses := true, apart := false, narrowed := true }
def SparePagesUptoSaid : Prop := sparePagesUptoRow.holds Try.pinned (OpenSpec.upto sparePagesSpec)

/-- 'cahierlaw09.SpareExact', WHERE WHAT IT READS IS OF BULK AT MOST 1048576: true; the input reads as it did. -/
def spareExactUptoRow : OpenClaim := { program := "ytonbipaajhokfaa", sum := "0024911778d297a45dcf39a498ccb20da64d7f1dc17dd18a5b85615d6200e458", func := "cahier/cahierlaw09.SpareExact", spec := "spareExact", inPlace := ["internal/abi.NoEscape", "internal/bytealg.MakeNoZero"], unfollowed := true, recurses := true, apart := false, narrowed := true }
def SpareExactUptoSaid : Prop := spareExactUptoRow.holds Try.pinned (OpenSpec.upto spareExactSpec)

/-- 'cahierlaw09.SpareOnce', WHERE WHAT IT READS IS OF BULK AT MOST 1048576: true; the input reads as it did. -/
def spareOnceUptoRow : OpenClaim := { program := "ytonbipaajhokfaa", sum := "0024911778d297a45dcf39a498ccb20da64d7f1dc17dd18a5b85615d6200e458", func := "cahier/cahierlaw09.SpareOnce", spec := "spareOnce", inPlace := ["internal/abi.NoEscape", "internal/bytealg.MakeNoZero"], unfollowed := true, recurses := true, apart := false, narrowed := true }
def SpareOnceUptoSaid : Prop := spareOnceUptoRow.holds Try.pinned (OpenSpec.upto spareOnceSpec)

/-- 'cahierlaw09.SpareBack', WHERE WHAT IT READS IS OF BULK AT MOST 1048576: true; the input reads as it did. -/
def spareBackUptoRow : OpenClaim := { program := "ytonbipaajhokfaa", sum := "0024911778d297a45dcf39a498ccb20da64d7f1dc17dd18a5b85615d6200e458", func := "cahier/cahierlaw09.SpareBack", spec := "spareBack", inPlace := ["internal/abi.NoEscape", "internal/bytealg.MakeNoZero"], unfollowed := true, recurses := true, apart := false, narrowed := true }
def SpareBackUptoSaid : Prop := spareBackUptoRow.holds Try.pinned (OpenSpec.upto spareBackSpec)

/-- 'cahierlaw09.SpareFails', WHERE WHAT IT READS IS OF BULK AT MOST 1048576: true; the input reads as it did. -/
def spareFailsUptoRow : OpenClaim := { program := "ytonbipaajhokfaa", sum := "0024911778d297a45dcf39a498ccb20da64d7f1dc17dd18a5b85615d6200e458", func := "cahier/cahierlaw09.SpareFails", spec := "spareFails", inPlace := ["internal/abi.NoEscape", "internal/bytealg.MakeNoZero"], unfollowed := true, recurses := true, apart := false, narrowed := true }
def SpareFailsUptoSaid : Prop := spareFailsUptoRow.holds Try.pinned (OpenSpec.upto spareFailsSpec)

/-- 'cahierlaw10.ShelfKeeps', WHERE WHAT IT READS IS OF BULK AT MOST 1048576: true; the input reads as it did. -/
def shelfKeepsUptoRow : OpenClaim := { program := "ytonbipaajhokfaa", sum := "0024911778d297a45dcf39a498ccb20da64d7f1dc17dd18a5b85615d6200e458", func := "cahier/cahierlaw10.ShelfKeeps", spec := "shelfKeeps", inPlace := ["internal/abi.NoEscape", "internal/bytealg.MakeNoZero"], unfollowed := true, recurses := true, apart := false, narrowed := true }
def ShelfKeepsUptoSaid : Prop := shelfKeepsUptoRow.holds Try.pinned (OpenSpec.upto shelfKeepsSpec)

/-- 'cahierlaw10.ShelfFails', WHERE WHAT IT READS IS OF BULK AT MOST 1048576: true; the input reads as it did. -/
def shelfFailsUptoRow : OpenClaim := { program := "ytonbipaajhokfaa", sum := "0024911778d297a45dcf39a498ccb20da64d7f1dc17dd18a5b85615d6200e458", func := "cahier/cahierlaw10.ShelfFails", spec := "shelfFails", inPlace := ["internal/abi.NoEscape", "internal/bytealg.MakeNoZero"], unfollowed := true, recurses := true, apart := false, narrowed := true }
def ShelfFailsUptoSaid : Prop := shelfFailsUptoRow.holds Try.pinned (OpenSpec.upto shelfFailsSpec)

/-- 'cahierlaw10.ShelfOnce', WHERE WHAT IT READS IS OF BULK AT MOST 1048576: true; the input reads as it did. -/
def shelfOnceUptoRow : OpenClaim := { program := "ytonbipaajhokfaa", sum := "0024911778d297a45dcf39a498ccb20da64d7f1dc17dd18a5b85615d6200e458", func := "cahier/cahierlaw10.ShelfOnce", spec := "shelfOnce", inPlace := ["internal/abi.NoEscape", "internal/bytealg.MakeNoZero"], unfollowed := true, recurses := true, apart := false, narrowed := true }
def ShelfOnceUptoSaid : Prop := shelfOnceUptoRow.holds Try.pinned (OpenSpec.upto shelfOnceSpec)

end Rows
end Go.Proofs.Ytonbipaajhokfaa
