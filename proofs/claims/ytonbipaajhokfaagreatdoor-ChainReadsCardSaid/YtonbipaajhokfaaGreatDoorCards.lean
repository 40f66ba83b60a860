/-
  DERIVED. GIVEN WITH THE SEED: THE CARDS: each row of YtonbipaajhokfaaGreatDoorRows.lean that lists a variable, with what it lists TIED to the program's text (the seventh form; the later family's looks); each row that meets fmt, with fmt's text TOLD by the authors' own Lean function (tested against real Go, not proved from fmt's source: count such statements apart). THE CARD IS WHAT COUNTS. Prove the row's statement (the work); the ties are given (YtonbipaajhokfaaGreatDoorTie.lean); close each card by the builder's one call (the guide's Derived/Test/ToyasCard.lean, 'card_holds'). Laid BY PROGRAM, IN A SANDBOX (cutbox-door.mjs). By AI agents, Wed Nov 11 2026. No macro, syntax, notation, axiom, sorry.
-/
import Derived.Test.YtonbipaajhokfaaGreatDoorRows
import GoSem.ClaimSeven
namespace Go.Proofs.YtonbipaajhokfaaGreatDoor
namespace Rows

/-- THE TIED CARD OF 'cahierlaw11.ChainReads'. -/
def chainReadsCard : Claim7 := { stood := { row := chainReadsRow, standIns := [], harness := (true, "2a5ab87320c2792922f647d1614323d6cce105328f7451100fe99c81ac964361"), looks := false }, kinds := [], alts := [], laidByText := true, laidKinds := [.data, .pinned], laidTests := true, laidLooks := .later }
def ChainReadsCardSaid : Prop := Claim7.holds Tryz.pinned (.plain (OpenSpec.ofChange chainReadsSpec)) chainReadsCard

/-- THE TIED CARD OF 'cahierlaw11.ChainLays'. -/
def chainLaysCard : Claim7 := { stood := { row := chainLaysRow, standIns := [], harness := (true, "2a5ab87320c2792922f647d1614323d6cce105328f7451100fe99c81ac964361"), looks := false }, kinds := [], alts := [], laidByText := true, laidKinds := [.data, .pinned], laidTests := true, laidLooks := .later }
def ChainLaysCardSaid : Prop := Claim7.holds Tryz.pinned (.plain (OpenSpec.ofChange chainLaysSpec)) chainLaysCard

/-- THE TIED CARD OF 'cahierlaw11.ChainBack'. -/
def chainBackCard : Claim7 := { stood := { row := chainBackRow, standIns := [], harness := (true, "2a5ab87320c2792922f647d1614323d6cce105328f7451100fe99c81ac964361"), looks := false }, kinds := [], alts := [], laidByText := true, laidKinds := [.data, .pinned], laidTests := true, laidLooks := .later }
def ChainBackCardSaid : Prop := Claim7.holds Tryz.pinned (.plain (OpenSpec.ofChange chainBackSpec)) chainBackCard

/-- THE TIED CARD OF 'cahierlaw11.ChainFails'. -/
def chainFailsCard : Claim7 := { stood := { row := chainFailsRow, standIns := [], harness := (true, "2a5ab87320c2792922f647d1614323d6cce105328f7451100fe99c81ac964361"), looks := false }, kinds := [], alts := [], laidByText := true, laidKinds := [.data, .pinned], laidTests := true, laidLooks := .later }
def ChainFailsCardSaid : Prop := Claim7.holds Tryz.pinned (.plain (OpenSpec.ofChange chainFailsSpec)) chainFailsCard

/-- THE SECOND FORM's CARD OF 'cahierlaw11.ChainReads'. -/
def chainReadsUptoCard : Claim7 := { stood := { row := chainReadsUptoRow, standIns := [], harness := (true, "2a5ab87320c2792922f647d1614323d6cce105328f7451100fe99c81ac964361"), looks := false }, kinds := [], alts := [], laidByText := true, laidKinds := [.data, .pinned], laidTests := true, laidLooks := .later }
def ChainReadsUptoCardSaid : Prop := Claim7.holds Tryz.pinned (.plain (OpenSpec.upto chainReadsSpec)) chainReadsUptoCard

/-- THE SECOND FORM's CARD OF 'cahierlaw11.ChainLays'. -/
def chainLaysUptoCard : Claim7 := { stood := { row := chainLaysUptoRow, standIns := [], harness := (true, "2a5ab87320c2792922f647d1614323d6cce105328f7451100fe99c81ac964361"), looks := false }, kinds := [], alts := [], laidByText := true, laidKinds := [.data, .pinned], laidTests := true, laidLooks := .later }
def ChainLaysUptoCardSaid : Prop := Claim7.holds Tryz.pinned (.plain (OpenSpec.upto chainLaysSpec)) chainLaysUptoCard

/-- THE SECOND FORM's CARD OF 'cahierlaw11.ChainBack'. -/
def chainBackUptoCard : Claim7 := { stood := { row := chainBackUptoRow, standIns := [], harness := (true, "2a5ab87320c2792922f647d1614323d6cce105328f7451100fe99c81ac964361"), looks := false }, kinds := [], alts := [], laidByText := true, laidKinds := [.data, .pinned], laidTests := true, laidLooks := .later }
def ChainBackUptoCardSaid : Prop := Claim7.holds Tryz.pinned (.plain (OpenSpec.upto chainBackSpec)) chainBackUptoCard

/-- THE SECOND FORM's CARD OF 'cahierlaw11.ChainFails'. -/
def chainFailsUptoCard : Claim7 := { stood := { row := chainFailsUptoRow, standIns := [], harness := (true, "2a5ab87320c2792922f647d1614323d6cce105328f7451100fe99c81ac964361"), looks := false }, kinds := [], alts := [], laidByText := true, laidKinds := [.data, .pinned], laidTests := true, laidLooks := .later }
def ChainFailsUptoCardSaid : Prop := Claim7.holds Tryz.pinned (.plain (OpenSpec.upto chainFailsSpec)) chainFailsUptoCard
end Rows
end Go.Proofs.YtonbipaajhokfaaGreatDoor
