/-
  DERIVED. GIVEN WITH THE SEED: THE CARDS: each row of YtfokmnafgabdiaaDoorRows.lean that lists a variable, with what it lists TIED to the program's text (the seventh form; the later family's looks); each row that meets fmt, with fmt's text TOLD by the authors' own Lean function (tested against real Go, not proved from fmt's source: count such statements apart). THE CARD IS WHAT COUNTS. Prove the row's statement (the work); the ties are given (YtfokmnafgabdiaaDoorTie.lean); close each card by the builder's one call (the guide's Derived/Test/ToyasCard.lean, 'card_holds'). Laid BY PROGRAM, IN A SANDBOX (cutbox-door.mjs). By AI agents, Wed Nov 11 2026. No macro, syntax, notation, axiom, sorry.
-/
import Derived.Test.YtfokmnafgabdiaaDoorRows
import GoSem.ClaimSeven
namespace Go.Proofs.YtfokmnafgabdiaaDoor
namespace Rows

/-- THE TIED CARD OF 'laws.FnTreFull'. -/
def fnTreFullCard : Claim7 := { stood := { row := fnTreFullRow, standIns := [], harness := (true, "daad83a490b34129d1b7f3c703819fb88759358df3d223f573ce05cd5243201b"), looks := true }, kinds := [], alts := [], laidByText := true, laidKinds := [.data, .data, .data, .sentinel, .sentinel], laidTests := true, laidLooks := .later }
def FnTreFullCardSaid : Prop := Claim7.holds Tryd.pinned (.plain (OpenSpec.ofChange fnTreFullSpec)) fnTreFullCard

/-- THE TIED CARD OF 'laws.FnWinOrder'. -/
def fnWinOrderCard : Claim7 := { stood := { row := fnWinOrderRow, standIns := [], harness := (true, "daad83a490b34129d1b7f3c703819fb88759358df3d223f573ce05cd5243201b"), looks := true }, kinds := [], alts := [], laidByText := true, laidKinds := [.data, .data, .data, .sentinel, .sentinel], laidTests := true, laidLooks := .later }
def FnWinOrderCardSaid : Prop := Claim7.holds Tryd.pinned (.plain (OpenSpec.ofChange fnWinOrderSpec)) fnWinOrderCard

/-- THE TIED CARD OF 'laws.FnExactTreClear'. -/
def fnExactTreClearCard : Claim7 := { stood := { row := fnExactTreClearRow, standIns := [], harness := (true, "daad83a490b34129d1b7f3c703819fb88759358df3d223f573ce05cd5243201b"), looks := true }, kinds := [], alts := [], laidByText := true, laidKinds := [.data, .data, .data, .sentinel, .sentinel], laidTests := true, laidLooks := .later }
def FnExactTreClearCardSaid : Prop := Claim7.holds Tryd.pinned (.plain (OpenSpec.ofChange fnExactTreClearSpec)) fnExactTreClearCard

/-- THE TIED CARD OF 'laws.FnWinOk'. -/
def fnWinOkCard : Claim7 := { stood := { row := fnWinOkRow, standIns := [], harness := (true, "daad83a490b34129d1b7f3c703819fb88759358df3d223f573ce05cd5243201b"), looks := true }, kinds := [], alts := [], laidByText := true, laidKinds := [.data, .data, .data, .sentinel, .sentinel], laidTests := true, laidLooks := .later }
def FnWinOkCardSaid : Prop := Claim7.holds Tryd.pinned (.plain (OpenSpec.ofChange fnWinOkSpec)) fnWinOkCard

/-- THE TIED CARD OF 'laws.FnExactTreSet'. -/
def fnExactTreSetCard : Claim7 := { stood := { row := fnExactTreSetRow, standIns := [], harness := (true, "daad83a490b34129d1b7f3c703819fb88759358df3d223f573ce05cd5243201b"), looks := true }, kinds := [], alts := [], laidByText := true, laidKinds := [.data, .data, .data, .sentinel, .sentinel], laidTests := true, laidLooks := .later }
def FnExactTreSetCardSaid : Prop := Claim7.holds Tryd.pinned (.plain (OpenSpec.ofChange fnExactTreSetSpec)) fnExactTreSetCard

/-- THE TIED CARD OF 'laws.FnExactWinTake'. -/
def fnExactWinTakeCard : Claim7 := { stood := { row := fnExactWinTakeRow, standIns := [], harness := (true, "daad83a490b34129d1b7f3c703819fb88759358df3d223f573ce05cd5243201b"), looks := true }, kinds := [], alts := [], laidByText := true, laidKinds := [.data, .data, .data, .sentinel, .sentinel], laidTests := true, laidLooks := .later }
def FnExactWinTakeCardSaid : Prop := Claim7.holds Tryd.pinned (.plain (OpenSpec.ofChange fnExactWinTakeSpec)) fnExactWinTakeCard

/-- THE TIED CARD OF 'laws.FnExactMemFirst'. -/
def fnExactMemFirstCard : Claim7 := { stood := { row := fnExactMemFirstRow, standIns := [], harness := (true, "daad83a490b34129d1b7f3c703819fb88759358df3d223f573ce05cd5243201b"), looks := true }, kinds := [], alts := [], laidByText := true, laidKinds := [.data, .data, .data, .sentinel, .sentinel], laidTests := true, laidLooks := .later }
def FnExactMemFirstCardSaid : Prop := Claim7.holds Tryd.pinned (.plain (OpenSpec.ofChange fnExactMemFirstSpec)) fnExactMemFirstCard

/-- THE TIED CARD OF 'laws.FnWinTake'. -/
def fnWinTakeCard : Claim7 := { stood := { row := fnWinTakeRow, standIns := [], harness := (true, "daad83a490b34129d1b7f3c703819fb88759358df3d223f573ce05cd5243201b"), looks := true }, kinds := [], alts := [], laidByText := true, laidKinds := [.data, .data, .data, .sentinel, .sentinel], laidTests := true, laidLooks := .later }
def FnWinTakeCardSaid : Prop := Claim7.holds Tryd.pinned (.plain (OpenSpec.ofChange fnWinTakeSpec)) fnWinTakeCard

/-- THE SECOND FORM's CARD OF 'laws.FnTreFull'. -/
def fnTreFullUptoCard : Claim7 := { stood := { row := fnTreFullUptoRow, standIns := [], harness := (true, "daad83a490b34129d1b7f3c703819fb88759358df3d223f573ce05cd5243201b"), looks := true }, kinds := [], alts := [], laidByText := true, laidKinds := [.data, .data, .data, .sentinel, .sentinel], laidTests := true, laidLooks := .later }
def FnTreFullUptoCardSaid : Prop := Claim7.holds Tryd.pinned (.plain (OpenSpec.upto fnTreFullSpec)) fnTreFullUptoCard

/-- THE SECOND FORM's CARD OF 'laws.FnWinOrder'. -/
def fnWinOrderUptoCard : Claim7 := { stood := { row := fnWinOrderUptoRow, standIns := [], harness := (true, "daad83a490b34129d1b7f3c703819fb88759358df3d223f573ce05cd5243201b"), looks := true }, kinds := [], alts := [], laidByText := true, laidKinds := [.data, .data, .data, .sentinel, .sentinel], laidTests := true, laidLooks := .later }
def FnWinOrderUptoCardSaid : Prop := Claim7.holds Tryd.pinned (.plain (OpenSpec.upto fnWinOrderSpec)) fnWinOrderUptoCard

/-- THE SECOND FORM's CARD OF 'laws.FnExactTreClear'. -/
def fnExactTreClearUptoCard : Claim7 := { stood := { row := fnExactTreClearUptoRow, standIns := [], harness := (true, "daad83a490b34129d1b7f3c703819fb88759358df3d223f573ce05cd5243201b"), looks := true }, kinds := [], alts := [], laidByText := true, laidKinds := [.data, .data, .data, .sentinel, .sentinel], laidTests := true, laidLooks := .later }
def FnExactTreClearUptoCardSaid : Prop := Claim7.holds Tryd.pinned (.plain (OpenSpec.upto fnExactTreClearSpec)) fnExactTreClearUptoCard

/-- THE SECOND FORM's CARD OF 'laws.FnWinOk'. -/
def fnWinOkUptoCard : Claim7 := { stood := { row := fnWinOkUptoRow, standIns := [], harness := (true, "daad83a490b34129d1b7f3c703819fb88759358df3d223f573ce05cd5243201b"), looks := true }, kinds := [], alts := [], laidByText := true, laidKinds := [.data, .data, .data, .sentinel, .sentinel], laidTests := true, laidLooks := .later }
def FnWinOkUptoCardSaid : Prop := Claim7.holds Tryd.pinned (.plain (OpenSpec.upto fnWinOkSpec)) fnWinOkUptoCard

/-- THE SECOND FORM's CARD OF 'laws.FnExactTreSet'. -/
def fnExactTreSetUptoCard : Claim7 := { stood := { row := fnExactTreSetUptoRow, standIns := [], harness := (true, "daad83a490b34129d1b7f3c703819fb88759358df3d223f573ce05cd5243201b"), looks := true }, kinds := [], alts := [], laidByText := true, laidKinds := [.data, .data, .data, .sentinel, .sentinel], laidTests := true, laidLooks := .later }
def FnExactTreSetUptoCardSaid : Prop := Claim7.holds Tryd.pinned (.plain (OpenSpec.upto fnExactTreSetSpec)) fnExactTreSetUptoCard

/-- THE SECOND FORM's CARD OF 'laws.FnExactWinTake'. -/
def fnExactWinTakeUptoCard : Claim7 := { stood := { row := fnExactWinTakeUptoRow, standIns := [], harness := (true, "daad83a490b34129d1b7f3c703819fb88759358df3d223f573ce05cd5243201b"), looks := true }, kinds := [], alts := [], laidByText := true, laidKinds := [.data, .data, .data, .sentinel, .sentinel], laidTests := true, laidLooks := .later }
def FnExactWinTakeUptoCardSaid : Prop := Claim7.holds Tryd.pinned (.plain (OpenSpec.upto fnExactWinTakeSpec)) fnExactWinTakeUptoCard

/-- THE SECOND FORM's CARD OF 'laws.FnExactMemFirst'. -/
def fnExactMemFirstUptoCard : Claim7 := { stood := { row := fnExactMemFirstUptoRow, standIns := [], harness := (true, "daad83a490b34129d1b7f3c703819fb88759358df3d223f573ce05cd5243201b"), looks := true }, kinds := [], alts := [], laidByText := true, laidKinds := [.data, .data, .data, .sentinel, .sentinel], laidTests := true, laidLooks := .later }
def FnExactMemFirstUptoCardSaid : Prop := Claim7.holds Tryd.pinned (.plain (OpenSpec.upto fnExactMemFirstSpec)) fnExactMemFirstUptoCard

/-- THE SECOND FORM's CARD OF 'laws.FnWinTake'. -/
def fnWinTakeUptoCard : Claim7 := { stood := { row := fnWinTakeUptoRow, standIns := [], harness := (true, "daad83a490b34129d1b7f3c703819fb88759358df3d223f573ce05cd5243201b"), looks := true }, kinds := [], alts := [], laidByText := true, laidKinds := [.data, .data, .data, .sentinel, .sentinel], laidTests := true, laidLooks := .later }
def FnWinTakeUptoCardSaid : Prop := Claim7.holds Tryd.pinned (.plain (OpenSpec.upto fnWinTakeSpec)) fnWinTakeUptoCard
end Rows
end Go.Proofs.YtfokmnafgabdiaaDoor
