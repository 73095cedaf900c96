/-
  DERIVED. GIVEN WITH THE SEED: THE CARDS: each row of YtfmmandlmbcncaaGreatDoorRows.lean that lists a variable, with what it lists TIED to the program's text (the seventh form; the later family's looks); each row that meets fmt, with fmt's text TOLD by the authors' own Lean function (tested against real Go, not proved from fmt's source: count such statements apart). THE CARD IS WHAT COUNTS. Prove the row's statement (the work); the ties are given (YtfmmandlmbcncaaGreatDoorTie.lean); close each card by the builder's one call (the guide's Derived/Test/ToyasCard.lean, 'card_holds'). Laid BY PROGRAM, IN A SANDBOX (cutbox-door.mjs). By AI agents, Wed Nov 11 2026. No macro, syntax, notation, axiom, sorry.
-/
import Derived.Test.YtfmmandlmbcncaaGreatDoorRows
import GoSem.ClaimSeven
namespace Go.Proofs.YtfmmandlmbcncaaGreatDoor
namespace Rows

/-- THE TIED CARD OF 'blazonlaw27.SessionPlays'. -/
def sessionPlaysCard : Claim7 := { stood := { row := sessionPlaysRow, standIns := [], harness := (true, "5640cd6bb4c23f51e1b049e0457032d1e2025a96012f1f463c8fbdde4b620227"), looks := true }, kinds := [], alts := [], laidByText := true, laidKinds := [.handle], laidTests := true, laidLooks := .later }
def SessionPlaysCardSaid : Prop := Claim7.holds Tryz.pinned (.plain (OpenSpec.ofChange sessionPlaysSpec)) sessionPlaysCard

/-- THE TIED CARD OF 'blazonlaw23.MessageMeans'. -/
def messageMeansCard : Claim7 := { stood := { row := messageMeansRow, standIns := [], harness := (true, "5640cd6bb4c23f51e1b049e0457032d1e2025a96012f1f463c8fbdde4b620227"), looks := true }, kinds := [], alts := [], laidByText := true, laidKinds := [.handle], laidTests := true, laidLooks := .later }
def MessageMeansCardSaid : Prop := Claim7.holds Tryz.pinned (.plain (OpenSpec.ofChange messageMeansSpec)) messageMeansCard

/-- THE TIED CARD OF 'blazonlaw23.MessageReads'. -/
def messageReadsCard : Claim7 := { stood := { row := messageReadsRow, standIns := [], harness := (true, "5640cd6bb4c23f51e1b049e0457032d1e2025a96012f1f463c8fbdde4b620227"), looks := true }, kinds := [], alts := [], laidByText := true, laidKinds := [.handle], laidTests := true, laidLooks := .later }
def MessageReadsCardSaid : Prop := Claim7.holds Tryz.pinned (.plain (OpenSpec.ofChange messageReadsSpec)) messageReadsCard

/-- THE TIED CARD OF 'blazonlaw23.MessageBounds'. -/
def messageBoundsCard : Claim7 := { stood := { row := messageBoundsRow, standIns := [], harness := (true, "5640cd6bb4c23f51e1b049e0457032d1e2025a96012f1f463c8fbdde4b620227"), looks := true }, kinds := [], alts := [], laidByText := true, laidKinds := [.handle], laidTests := true, laidLooks := .later }
def MessageBoundsCardSaid : Prop := Claim7.holds Tryz.pinned (.plain (OpenSpec.ofChange messageBoundsSpec)) messageBoundsCard

/-- THE TIED CARD OF 'blazonlaw27.SessionOnce'. -/
def sessionOnceCard : Claim7 := { stood := { row := sessionOnceRow, standIns := [], harness := (true, "5640cd6bb4c23f51e1b049e0457032d1e2025a96012f1f463c8fbdde4b620227"), looks := true }, kinds := [], alts := [], laidByText := true, laidKinds := [.handle], laidTests := true, laidLooks := .later }
def SessionOnceCardSaid : Prop := Claim7.holds Tryz.pinned (.plain (OpenSpec.ofChange sessionOnceSpec)) sessionOnceCard

/-- THE SECOND FORM's CARD OF 'blazonlaw27.SessionPlays'. -/
def sessionPlaysUptoCard : Claim7 := { stood := { row := sessionPlaysUptoRow, standIns := [], harness := (true, "5640cd6bb4c23f51e1b049e0457032d1e2025a96012f1f463c8fbdde4b620227"), looks := true }, kinds := [], alts := [], laidByText := true, laidKinds := [.handle], laidTests := true, laidLooks := .later }
def SessionPlaysUptoCardSaid : Prop := Claim7.holds Tryz.pinned (.plain (OpenSpec.upto sessionPlaysSpec)) sessionPlaysUptoCard

/-- THE SECOND FORM's CARD OF 'blazonlaw23.MessageMeans'. -/
def messageMeansUptoCard : Claim7 := { stood := { row := messageMeansUptoRow, standIns := [], harness := (true, "5640cd6bb4c23f51e1b049e0457032d1e2025a96012f1f463c8fbdde4b620227"), looks := true }, kinds := [], alts := [], laidByText := true, laidKinds := [.handle], laidTests := true, laidLooks := .later }
def MessageMeansUptoCardSaid : Prop := Claim7.holds Tryz.pinned (.plain (OpenSpec.upto messageMeansSpec)) messageMeansUptoCard

/-- THE SECOND FORM's CARD OF 'blazonlaw23.MessageReads'. -/
def messageReadsUptoCard : Claim7 := { stood := { row := messageReadsUptoRow, standIns := [], harness := (true, "5640cd6bb4c23f51e1b049e0457032d1e2025a96012f1f463c8fbdde4b620227"), looks := true }, kinds := [], alts := [], laidByText := true, laidKinds := [.handle], laidTests := true, laidLooks := .later }
def MessageReadsUptoCardSaid : Prop := Claim7.holds Tryz.pinned (.plain (OpenSpec.upto messageReadsSpec)) messageReadsUptoCard

/-- THE SECOND FORM's CARD OF 'blazonlaw23.MessageBounds'. -/
def messageBoundsUptoCard : Claim7 := { stood := { row := messageBoundsUptoRow, standIns := [], harness := (true, "5640cd6bb4c23f51e1b049e0457032d1e2025a96012f1f463c8fbdde4b620227"), looks := true }, kinds := [], alts := [], laidByText := true, laidKinds := [.handle], laidTests := true, laidLooks := .later }
def MessageBoundsUptoCardSaid : Prop := Claim7.holds Tryz.pinned (.plain (OpenSpec.upto messageBoundsSpec)) messageBoundsUptoCard

/-- THE SECOND FORM's CARD OF 'blazonlaw27.SessionOnce'. -/
def sessionOnceUptoCard : Claim7 := { stood := { row := sessionOnceUptoRow, standIns := [], harness := (true, "5640cd6bb4c23f51e1b049e0457032d1e2025a96012f1f463c8fbdde4b620227"), looks := true }, kinds := [], alts := [], laidByText := true, laidKinds := [.handle], laidTests := true, laidLooks := .later }
def SessionOnceUptoCardSaid : Prop := Claim7.holds Tryz.pinned (.plain (OpenSpec.upto sessionOnceSpec)) sessionOnceUptoCard
end Rows
end Go.Proofs.YtfmmandlmbcncaaGreatDoor
