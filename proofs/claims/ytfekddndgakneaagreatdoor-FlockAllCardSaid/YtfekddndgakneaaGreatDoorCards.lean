/-
  DERIVED. GIVEN WITH THE SEED: THE CARDS: each row of YtfekddndgakneaaGreatDoorRows.lean that lists a variable, with what it lists TIED to the program's text (the seventh form; the later family's looks); each row that meets fmt, with fmt's text TOLD by the authors' own Lean function (tested against real Go, not proved from fmt's source: count such statements apart). THE CARD IS WHAT COUNTS. Prove the row's statement (the work); the ties are given (YtfekddndgakneaaGreatDoorTie.lean); close each card by the builder's one call (the guide's Derived/Test/ToyasCard.lean, 'card_holds'). Laid BY PROGRAM, IN A SANDBOX (cutbox-door.mjs). By AI agents, Wed Nov 11 2026. No macro, syntax, notation, axiom, sorry.
-/
import Derived.Test.YtfekddndgakneaaGreatDoorRows
import GoSem.ClaimSeven
namespace Go.Proofs.YtfekddndgakneaaGreatDoor
namespace Rows

/-- THE TIED CARD OF 'armariumlaw11.WordAll'. -/
def wordAllCard : Claim7 := { stood := { row := wordAllRow, standIns := [], harness := (true, "a0344ac5038f4f6ccc904b20bf2aa210bba6d08134c48900a1ee97ed9c9061dd"), looks := true }, kinds := [], alts := [], laidByText := true, laidKinds := [.data, .data, .data, .sentinel, .sentinel], laidTests := true, laidLooks := .later }
def WordAllCardSaid : Prop := Claim7.holds Tryz.pinned (.plain (OpenSpec.ofChange wordAllSpec)) wordAllCard

/-- THE TIED CARD OF 'armariumlaw11.WordAny'. -/
def wordAnyCard : Claim7 := { stood := { row := wordAnyRow, standIns := [], harness := (true, "a0344ac5038f4f6ccc904b20bf2aa210bba6d08134c48900a1ee97ed9c9061dd"), looks := true }, kinds := [], alts := [], laidByText := true, laidKinds := [.data, .data, .data, .sentinel, .sentinel], laidTests := true, laidLooks := .later }
def WordAnyCardSaid : Prop := Claim7.holds Tryz.pinned (.plain (OpenSpec.ofChange wordAnySpec)) wordAnyCard

/-- THE TIED CARD OF 'armariumlaw11.WordTurn'. -/
def wordTurnCard : Claim7 := { stood := { row := wordTurnRow, standIns := [], harness := (true, "a0344ac5038f4f6ccc904b20bf2aa210bba6d08134c48900a1ee97ed9c9061dd"), looks := true }, kinds := [], alts := [], laidByText := true, laidKinds := [.data, .data, .data, .sentinel, .sentinel], laidTests := true, laidLooks := .later }
def WordTurnCardSaid : Prop := Claim7.holds Tryz.pinned (.plain (OpenSpec.ofChange wordTurnSpec)) wordTurnCard

/-- THE TIED CARD OF 'armariumlaw11.FlockAll'. -/
def flockAllCard : Claim7 := { stood := { row := flockAllRow, standIns := [], harness := (true, "a0344ac5038f4f6ccc904b20bf2aa210bba6d08134c48900a1ee97ed9c9061dd"), looks := true }, kinds := [], alts := [], laidByText := true, laidKinds := [.data, .data, .data, .sentinel, .sentinel], laidTests := true, laidLooks := .later }
def FlockAllCardSaid : Prop := Claim7.holds Tryz.pinned (.plain (OpenSpec.ofChange flockAllSpec)) flockAllCard

/-- THE TIED CARD OF 'armariumlaw11.FlockFull'. -/
def flockFullCard : Claim7 := { stood := { row := flockFullRow, standIns := [], harness := (true, "a0344ac5038f4f6ccc904b20bf2aa210bba6d08134c48900a1ee97ed9c9061dd"), looks := true }, kinds := [], alts := [], laidByText := true, laidKinds := [.data, .data, .data, .sentinel, .sentinel], laidTests := true, laidLooks := .later }
def FlockFullCardSaid : Prop := Claim7.holds Tryz.pinned (.plain (OpenSpec.ofChange flockFullSpec)) flockFullCard

/-- THE TIED CARD OF 'armariumlaw11.FlockNone'. -/
def flockNoneCard : Claim7 := { stood := { row := flockNoneRow, standIns := [], harness := (true, "a0344ac5038f4f6ccc904b20bf2aa210bba6d08134c48900a1ee97ed9c9061dd"), looks := true }, kinds := [], alts := [], laidByText := true, laidKinds := [.data, .data, .data, .sentinel, .sentinel], laidTests := true, laidLooks := .later }
def FlockNoneCardSaid : Prop := Claim7.holds Tryz.pinned (.plain (OpenSpec.ofChange flockNoneSpec)) flockNoneCard

/-- THE TIED CARD OF 'armariumlaw11.WordOwn'. -/
def wordOwnCard : Claim7 := { stood := { row := wordOwnRow, standIns := [], harness := (true, "a0344ac5038f4f6ccc904b20bf2aa210bba6d08134c48900a1ee97ed9c9061dd"), looks := true }, kinds := [], alts := [], laidByText := true, laidKinds := [.data, .data, .data, .sentinel, .sentinel], laidTests := true, laidLooks := .later }
def WordOwnCardSaid : Prop := Claim7.holds Tryz.pinned (.plain (OpenSpec.ofChange wordOwnSpec)) wordOwnCard

/-- THE SECOND FORM's CARD OF 'armariumlaw11.WordAll'. -/
def wordAllUptoCard : Claim7 := { stood := { row := wordAllUptoRow, standIns := [], harness := (true, "a0344ac5038f4f6ccc904b20bf2aa210bba6d08134c48900a1ee97ed9c9061dd"), looks := true }, kinds := [], alts := [], laidByText := true, laidKinds := [.data, .data, .data, .sentinel, .sentinel], laidTests := true, laidLooks := .later }
def WordAllUptoCardSaid : Prop := Claim7.holds Tryz.pinned (.plain (OpenSpec.upto wordAllSpec)) wordAllUptoCard

/-- THE SECOND FORM's CARD OF 'armariumlaw11.WordAny'. -/
def wordAnyUptoCard : Claim7 := { stood := { row := wordAnyUptoRow, standIns := [], harness := (true, "a0344ac5038f4f6ccc904b20bf2aa210bba6d08134c48900a1ee97ed9c9061dd"), looks := true }, kinds := [], alts := [], laidByText := true, laidKinds := [.data, .data, .data, .sentinel, .sentinel], laidTests := true, laidLooks := .later }
def WordAnyUptoCardSaid : Prop := Claim7.holds Tryz.pinned (.plain (OpenSpec.upto wordAnySpec)) wordAnyUptoCard

/-- THE SECOND FORM's CARD OF 'armariumlaw11.WordTurn'. -/
def wordTurnUptoCard : Claim7 := { stood := { row := wordTurnUptoRow, standIns := [], harness := (true, "a0344ac5038f4f6ccc904b20bf2aa210bba6d08134c48900a1ee97ed9c9061dd"), looks := true }, kinds := [], alts := [], laidByText := true, laidKinds := [.data, .data, .data, .sentinel, .sentinel], laidTests := true, laidLooks := .later }
def WordTurnUptoCardSaid : Prop := Claim7.holds Tryz.pinned (.plain (OpenSpec.upto wordTurnSpec)) wordTurnUptoCard

/-- THE SECOND FORM's CARD OF 'armariumlaw11.FlockAll'. -/
def flockAllUptoCard : Claim7 := { stood := { row := flockAllUptoRow, standIns := [], harness := (true, "a0344ac5038f4f6ccc904b20bf2aa210bba6d08134c48900a1ee97ed9c9061dd"), looks := true }, kinds := [], alts := [], laidByText := true, laidKinds := [.data, .data, .data, .sentinel, .sentinel], laidTests := true, laidLooks := .later }
def FlockAllUptoCardSaid : Prop := Claim7.holds Tryz.pinned (.plain (OpenSpec.upto flockAllSpec)) flockAllUptoCard

/-- THE SECOND FORM's CARD OF 'armariumlaw11.FlockFull'. -/
def flockFullUptoCard : Claim7 := { stood := { row := flockFullUptoRow, standIns := [], harness := (true, "a0344ac5038f4f6ccc904b20bf2aa210bba6d08134c48900a1ee97ed9c9061dd"), looks := true }, kinds := [], alts := [], laidByText := true, laidKinds := [.data, .data, .data, .sentinel, .sentinel], laidTests := true, laidLooks := .later }
def FlockFullUptoCardSaid : Prop := Claim7.holds Tryz.pinned (.plain (OpenSpec.upto flockFullSpec)) flockFullUptoCard

/-- THE SECOND FORM's CARD OF 'armariumlaw11.FlockNone'. -/
def flockNoneUptoCard : Claim7 := { stood := { row := flockNoneUptoRow, standIns := [], harness := (true, "a0344ac5038f4f6ccc904b20bf2aa210bba6d08134c48900a1ee97ed9c9061dd"), looks := true }, kinds := [], alts := [], laidByText := true, laidKinds := [.data, .data, .data, .sentinel, .sentinel], laidTests := true, laidLooks := .later }
def FlockNoneUptoCardSaid : Prop := Claim7.holds Tryz.pinned (.plain (OpenSpec.upto flockNoneSpec)) flockNoneUptoCard

/-- THE SECOND FORM's CARD OF 'armariumlaw11.WordOwn'. -/
def wordOwnUptoCard : Claim7 := { stood := { row := wordOwnUptoRow, standIns := [], harness := (true, "a0344ac5038f4f6ccc904b20bf2aa210bba6d08134c48900a1ee97ed9c9061dd"), looks := true }, kinds := [], alts := [], laidByText := true, laidKinds := [.data, .data, .data, .sentinel, .sentinel], laidTests := true, laidLooks := .later }
def WordOwnUptoCardSaid : Prop := Claim7.holds Tryz.pinned (.plain (OpenSpec.upto wordOwnSpec)) wordOwnUptoCard
end Rows
end Go.Proofs.YtfekddndgakneaaGreatDoor
