/-
  DERIVED. GIVEN WITH THE SEED: THE CARDS: each row of YtnllidgonghckaaGreatDoorRows.lean that lists a variable, with what it lists TIED to the program's text (the seventh form; the later family's looks); each row that meets fmt, with fmt's text TOLD by the authors' own Lean function (tested against real Go, not proved from fmt's source: count such statements apart). THE CARD IS WHAT COUNTS. Prove the row's statement (the work); the ties are given (YtnllidgonghckaaGreatDoorTie.lean); close each card by the builder's one call (the guide's Derived/Test/ToyasCard.lean, 'card_holds'). Laid BY PROGRAM, IN A SANDBOX (cutbox-door.mjs). By AI agents, Wed Nov 11 2026. No macro, syntax, notation, axiom, sorry.
-/
import Derived.Test.YtnllidgonghckaaGreatDoorRows
import GoSem.ClaimSeven
namespace Go.Proofs.YtnllidgonghckaaGreatDoor
namespace Rows

/-- THE TIED CARD OF 'tellurionlaw06.DialLetters'. -/
def dialLettersCard : Claim7 := { stood := { row := dialLettersRow, standIns := [], harness := (true, "55b30e5a95c9b53f4d91245e8b8d0410325dee582e4ec275b372c58fbb4b0ba6"), looks := true }, kinds := [], alts := [], laidByText := true, laidKinds := [.data, .data, .data], laidTests := true, laidLooks := .later }
def DialLettersCardSaid : Prop := Claim7.holds Tryz.pinned (.plain (OpenSpec.ofChange dialLettersSpec)) dialLettersCard

/-- THE TIED CARD OF 'tellurionlaw06.DialSundays'. -/
def dialSundaysCard : Claim7 := { stood := { row := dialSundaysRow, standIns := [], harness := (true, "55b30e5a95c9b53f4d91245e8b8d0410325dee582e4ec275b372c58fbb4b0ba6"), looks := true }, kinds := [], alts := [], laidByText := true, laidKinds := [.data, .data, .data], laidTests := true, laidLooks := .later }
def DialSundaysCardSaid : Prop := Claim7.holds Tryz.pinned (.plain (OpenSpec.ofChange dialSundaysSpec)) dialSundaysCard

/-- THE TIED CARD OF 'tellurionlaw06.DialLiked'. -/
def dialLikedCard : Claim7 := { stood := { row := dialLikedRow, standIns := [], harness := (true, "55b30e5a95c9b53f4d91245e8b8d0410325dee582e4ec275b372c58fbb4b0ba6"), looks := true }, kinds := [], alts := [], laidByText := true, laidKinds := [.data, .data, .data], laidTests := true, laidLooks := .later }
def DialLikedCardSaid : Prop := Claim7.holds Tryz.pinned (.plain (OpenSpec.ofChange dialLikedSpec)) dialLikedCard

/-- THE TIED CARD OF 'tellurionlaw06.DialAges'. -/
def dialAgesCard : Claim7 := { stood := { row := dialAgesRow, standIns := [], harness := (true, "55b30e5a95c9b53f4d91245e8b8d0410325dee582e4ec275b372c58fbb4b0ba6"), looks := true }, kinds := [], alts := [], laidByText := true, laidKinds := [.data, .data, .data], laidTests := true, laidLooks := .later }
def DialAgesCardSaid : Prop := Claim7.holds Tryz.pinned (.plain (OpenSpec.ofChange dialAgesSpec)) dialAgesCard

/-- THE TIED CARD OF 'tellurionlaw06.DialMonths'. -/
def dialMonthsCard : Claim7 := { stood := { row := dialMonthsRow, standIns := [], harness := (true, "55b30e5a95c9b53f4d91245e8b8d0410325dee582e4ec275b372c58fbb4b0ba6"), looks := true }, kinds := [], alts := [], laidByText := true, laidKinds := [.data, .data, .data], laidTests := true, laidLooks := .later }
def DialMonthsCardSaid : Prop := Claim7.holds Tryz.pinned (.plain (OpenSpec.ofChange dialMonthsSpec)) dialMonthsCard

/-- THE TIED CARD OF 'tellurionlaw06.DialRound'. -/
def dialRoundCard : Claim7 := { stood := { row := dialRoundRow, standIns := [], harness := (true, "55b30e5a95c9b53f4d91245e8b8d0410325dee582e4ec275b372c58fbb4b0ba6"), looks := true }, kinds := [], alts := [], laidByText := true, laidKinds := [.data, .data, .data], laidTests := true, laidLooks := .later }
def DialRoundCardSaid : Prop := Claim7.holds Tryz.pinned (.plain (OpenSpec.ofChange dialRoundSpec)) dialRoundCard

/-- THE TIED CARD OF 'tellurionlaw06.DialDates'. -/
def dialDatesCard : Claim7 := { stood := { row := dialDatesRow, standIns := [], harness := (true, "55b30e5a95c9b53f4d91245e8b8d0410325dee582e4ec275b372c58fbb4b0ba6"), looks := true }, kinds := [], alts := [], laidByText := true, laidKinds := [.data, .data, .data], laidTests := true, laidLooks := .later }
def DialDatesCardSaid : Prop := Claim7.holds Tryz.pinned (.plain (OpenSpec.ofChange dialDatesSpec)) dialDatesCard

/-- THE SECOND FORM's CARD OF 'tellurionlaw06.DialLetters'. -/
def dialLettersUptoCard : Claim7 := { stood := { row := dialLettersUptoRow, standIns := [], harness := (true, "55b30e5a95c9b53f4d91245e8b8d0410325dee582e4ec275b372c58fbb4b0ba6"), looks := true }, kinds := [], alts := [], laidByText := true, laidKinds := [.data, .data, .data], laidTests := true, laidLooks := .later }
def DialLettersUptoCardSaid : Prop := Claim7.holds Tryz.pinned (.plain (OpenSpec.upto dialLettersSpec)) dialLettersUptoCard

/-- THE SECOND FORM's CARD OF 'tellurionlaw06.DialSundays'. -/
def dialSundaysUptoCard : Claim7 := { stood := { row := dialSundaysUptoRow, standIns := [], harness := (true, "55b30e5a95c9b53f4d91245e8b8d0410325dee582e4ec275b372c58fbb4b0ba6"), looks := true }, kinds := [], alts := [], laidByText := true, laidKinds := [.data, .data, .data], laidTests := true, laidLooks := .later }
def DialSundaysUptoCardSaid : Prop := Claim7.holds Tryz.pinned (.plain (OpenSpec.upto dialSundaysSpec)) dialSundaysUptoCard

/-- THE SECOND FORM's CARD OF 'tellurionlaw06.DialLiked'. -/
def dialLikedUptoCard : Claim7 := { stood := { row := dialLikedUptoRow, standIns := [], harness := (true, "55b30e5a95c9b53f4d91245e8b8d0410325dee582e4ec275b372c58fbb4b0ba6"), looks := true }, kinds := [], alts := [], laidByText := true, laidKinds := [.data, .data, .data], laidTests := true, laidLooks := .later }
def DialLikedUptoCardSaid : Prop := Claim7.holds Tryz.pinned (.plain (OpenSpec.upto dialLikedSpec)) dialLikedUptoCard

/-- THE SECOND FORM's CARD OF 'tellurionlaw06.DialAges'. -/
def dialAgesUptoCard : Claim7 := { stood := { row := dialAgesUptoRow, standIns := [], harness := (true, "55b30e5a95c9b53f4d91245e8b8d0410325dee582e4ec275b372c58fbb4b0ba6"), looks := true }, kinds := [], alts := [], laidByText := true, laidKinds := [.data, .data, .data], laidTests := true, laidLooks := .later }
def DialAgesUptoCardSaid : Prop := Claim7.holds Tryz.pinned (.plain (OpenSpec.upto dialAgesSpec)) dialAgesUptoCard

/-- THE SECOND FORM's CARD OF 'tellurionlaw06.DialMonths'. -/
def dialMonthsUptoCard : Claim7 := { stood := { row := dialMonthsUptoRow, standIns := [], harness := (true, "55b30e5a95c9b53f4d91245e8b8d0410325dee582e4ec275b372c58fbb4b0ba6"), looks := true }, kinds := [], alts := [], laidByText := true, laidKinds := [.data, .data, .data], laidTests := true, laidLooks := .later }
def DialMonthsUptoCardSaid : Prop := Claim7.holds Tryz.pinned (.plain (OpenSpec.upto dialMonthsSpec)) dialMonthsUptoCard

/-- THE SECOND FORM's CARD OF 'tellurionlaw06.DialRound'. -/
def dialRoundUptoCard : Claim7 := { stood := { row := dialRoundUptoRow, standIns := [], harness := (true, "55b30e5a95c9b53f4d91245e8b8d0410325dee582e4ec275b372c58fbb4b0ba6"), looks := true }, kinds := [], alts := [], laidByText := true, laidKinds := [.data, .data, .data], laidTests := true, laidLooks := .later }
def DialRoundUptoCardSaid : Prop := Claim7.holds Tryz.pinned (.plain (OpenSpec.upto dialRoundSpec)) dialRoundUptoCard

/-- THE SECOND FORM's CARD OF 'tellurionlaw06.DialDates'. -/
def dialDatesUptoCard : Claim7 := { stood := { row := dialDatesUptoRow, standIns := [], harness := (true, "55b30e5a95c9b53f4d91245e8b8d0410325dee582e4ec275b372c58fbb4b0ba6"), looks := true }, kinds := [], alts := [], laidByText := true, laidKinds := [.data, .data, .data], laidTests := true, laidLooks := .later }
def DialDatesUptoCardSaid : Prop := Claim7.holds Tryz.pinned (.plain (OpenSpec.upto dialDatesSpec)) dialDatesUptoCard
end Rows
end Go.Proofs.YtnllidgonghckaaGreatDoor
