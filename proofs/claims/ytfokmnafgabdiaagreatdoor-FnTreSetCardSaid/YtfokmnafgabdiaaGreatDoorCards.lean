/-
  DERIVED. GIVEN WITH THE SEED: THE CARDS: each row of YtfokmnafgabdiaaGreatDoorRows.lean that lists a variable, with what it lists TIED to the program's text (the seventh form; the later family's looks); each row that meets fmt, with fmt's text TOLD by the authors' own Lean function (tested against real Go, not proved from fmt's source: count such statements apart). THE CARD IS WHAT COUNTS. Prove the row's statement (the work); the ties are given (YtfokmnafgabdiaaGreatDoorTie.lean); close each card by the builder's one call (the guide's Derived/Test/ToyasCard.lean, 'card_holds'). Laid BY PROGRAM, IN A SANDBOX (cutbox-door.mjs). By AI agents, Wed Nov 11 2026. No macro, syntax, notation, axiom, sorry.
-/
import Derived.Test.YtfokmnafgabdiaaGreatDoorRows
import GoSem.ClaimSeven
namespace Go.Proofs.YtfokmnafgabdiaaGreatDoor
namespace Rows

/-- THE TIED CARD OF 'laws.FnTreTwo'. -/
def fnTreTwoCard : Claim7 := { stood := { row := fnTreTwoRow, standIns := [], harness := (true, "4941def646bc6ab486dd2ce4bab68b0c4e667d1960afa325e642d3f12a6e7a5b"), looks := true }, kinds := [], alts := [], laidByText := true, laidKinds := [.data, .data, .data, .sentinel, .sentinel], laidTests := true, laidLooks := .later }
def FnTreTwoCardSaid : Prop := Claim7.holds Tryz.pinned (.plain (OpenSpec.ofChange fnTreTwoSpec)) fnTreTwoCard

/-- THE TIED CARD OF 'laws.FnMemFirst'. -/
def fnMemFirstCard : Claim7 := { stood := { row := fnMemFirstRow, standIns := [], harness := (true, "4941def646bc6ab486dd2ce4bab68b0c4e667d1960afa325e642d3f12a6e7a5b"), looks := true }, kinds := [], alts := [], laidByText := true, laidKinds := [.data, .data, .data, .sentinel, .sentinel], laidTests := true, laidLooks := .later }
def FnMemFirstCardSaid : Prop := Claim7.holds Tryz.pinned (.plain (OpenSpec.ofChange fnMemFirstSpec)) fnMemFirstCard

/-- THE TIED CARD OF 'laws.FnTreBack'. -/
def fnTreBackCard : Claim7 := { stood := { row := fnTreBackRow, standIns := [], harness := (true, "4941def646bc6ab486dd2ce4bab68b0c4e667d1960afa325e642d3f12a6e7a5b"), looks := true }, kinds := [], alts := [], laidByText := true, laidKinds := [.data, .data, .data, .sentinel, .sentinel], laidTests := true, laidLooks := .later }
def FnTreBackCardSaid : Prop := Claim7.holds Tryz.pinned (.plain (OpenSpec.ofChange fnTreBackSpec)) fnTreBackCard

/-- THE TIED CARD OF 'laws.FnTreSet'. -/
def fnTreSetCard : Claim7 := { stood := { row := fnTreSetRow, standIns := [], harness := (true, "4941def646bc6ab486dd2ce4bab68b0c4e667d1960afa325e642d3f12a6e7a5b"), looks := true }, kinds := [], alts := [], laidByText := true, laidKinds := [.data, .data, .data, .sentinel, .sentinel], laidTests := true, laidLooks := .later }
def FnTreSetCardSaid : Prop := Claim7.holds Tryz.pinned (.plain (OpenSpec.ofChange fnTreSetSpec)) fnTreSetCard

/-- THE SECOND FORM's CARD OF 'laws.FnTreTwo'. -/
def fnTreTwoUptoCard : Claim7 := { stood := { row := fnTreTwoUptoRow, standIns := [], harness := (true, "4941def646bc6ab486dd2ce4bab68b0c4e667d1960afa325e642d3f12a6e7a5b"), looks := true }, kinds := [], alts := [], laidByText := true, laidKinds := [.data, .data, .data, .sentinel, .sentinel], laidTests := true, laidLooks := .later }
def FnTreTwoUptoCardSaid : Prop := Claim7.holds Tryz.pinned (.plain (OpenSpec.upto fnTreTwoSpec)) fnTreTwoUptoCard

/-- THE SECOND FORM's CARD OF 'laws.FnMemFirst'. -/
def fnMemFirstUptoCard : Claim7 := { stood := { row := fnMemFirstUptoRow, standIns := [], harness := (true, "4941def646bc6ab486dd2ce4bab68b0c4e667d1960afa325e642d3f12a6e7a5b"), looks := true }, kinds := [], alts := [], laidByText := true, laidKinds := [.data, .data, .data, .sentinel, .sentinel], laidTests := true, laidLooks := .later }
def FnMemFirstUptoCardSaid : Prop := Claim7.holds Tryz.pinned (.plain (OpenSpec.upto fnMemFirstSpec)) fnMemFirstUptoCard

/-- THE SECOND FORM's CARD OF 'laws.FnTreBack'. -/
def fnTreBackUptoCard : Claim7 := { stood := { row := fnTreBackUptoRow, standIns := [], harness := (true, "4941def646bc6ab486dd2ce4bab68b0c4e667d1960afa325e642d3f12a6e7a5b"), looks := true }, kinds := [], alts := [], laidByText := true, laidKinds := [.data, .data, .data, .sentinel, .sentinel], laidTests := true, laidLooks := .later }
def FnTreBackUptoCardSaid : Prop := Claim7.holds Tryz.pinned (.plain (OpenSpec.upto fnTreBackSpec)) fnTreBackUptoCard

/-- THE SECOND FORM's CARD OF 'laws.FnTreSet'. -/
def fnTreSetUptoCard : Claim7 := { stood := { row := fnTreSetUptoRow, standIns := [], harness := (true, "4941def646bc6ab486dd2ce4bab68b0c4e667d1960afa325e642d3f12a6e7a5b"), looks := true }, kinds := [], alts := [], laidByText := true, laidKinds := [.data, .data, .data, .sentinel, .sentinel], laidTests := true, laidLooks := .later }
def FnTreSetUptoCardSaid : Prop := Claim7.holds Tryz.pinned (.plain (OpenSpec.upto fnTreSetSpec)) fnTreSetUptoCard
end Rows
end Go.Proofs.YtfokmnafgabdiaaGreatDoor
