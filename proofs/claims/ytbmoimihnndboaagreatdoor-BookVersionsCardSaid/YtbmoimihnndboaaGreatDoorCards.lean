/-
  DERIVED. GIVEN WITH THE SEED: THE CARDS: each row of YtbmoimihnndboaaGreatDoorRows.lean that lists a variable, with what it lists TIED to the program's text (the seventh form; the later family's looks); each row that meets fmt, with fmt's text TOLD by the authors' own Lean function (tested against real Go, not proved from fmt's source: count such statements apart). THE CARD IS WHAT COUNTS. Prove the row's statement (the work); the ties are given (YtbmoimihnndboaaGreatDoorTie.lean); close each card by the builder's one call (the guide's Derived/Test/ToyasCard.lean, 'card_holds'). Laid BY PROGRAM, IN A SANDBOX (cutbox-door.mjs). By AI agents, Wed Nov 11 2026. No macro, syntax, notation, axiom, sorry.
-/
import Derived.Test.YtbmoimihnndboaaGreatDoorRows
import GoSem.ClaimSeven
namespace Go.Proofs.YtbmoimihnndboaaGreatDoor
namespace Rows

/-- THE TIED CARD OF 'armariumlaw5.DeedAll'. -/
def deedAllCard : Claim7 := { stood := { row := deedAllRow, standIns := [], harness := (true, "627852208b516639445f7e4977d9c5c4f9ef28552c62c954775479b14c35836f"), looks := true }, kinds := [], alts := [], laidByText := true, laidKinds := [.data, .data, .data, .sentinel, .sentinel], laidTests := true, laidLooks := .later }
def DeedAllCardSaid : Prop := Claim7.holds Tryz.pinned (.plain (OpenSpec.ofChange deedAllSpec)) deedAllCard

/-- THE TIED CARD OF 'armariumlaw5.DeedAny'. -/
def deedAnyCard : Claim7 := { stood := { row := deedAnyRow, standIns := [], harness := (true, "627852208b516639445f7e4977d9c5c4f9ef28552c62c954775479b14c35836f"), looks := true }, kinds := [], alts := [], laidByText := true, laidKinds := [.data, .data, .data, .sentinel, .sentinel], laidTests := true, laidLooks := .later }
def DeedAnyCardSaid : Prop := Claim7.holds Tryz.pinned (.plain (OpenSpec.ofChange deedAnySpec)) deedAnyCard

/-- THE TIED CARD OF 'armariumlaw5.DeedTurn'. -/
def deedTurnCard : Claim7 := { stood := { row := deedTurnRow, standIns := [], harness := (true, "627852208b516639445f7e4977d9c5c4f9ef28552c62c954775479b14c35836f"), looks := true }, kinds := [], alts := [], laidByText := true, laidKinds := [.data, .data, .data, .sentinel, .sentinel], laidTests := true, laidLooks := .later }
def DeedTurnCardSaid : Prop := Claim7.holds Tryz.pinned (.plain (OpenSpec.ofChange deedTurnSpec)) deedTurnCard

/-- THE TIED CARD OF 'armariumlaw5.TomeAll'. -/
def tomeAllCard : Claim7 := { stood := { row := tomeAllRow, standIns := [], harness := (true, "627852208b516639445f7e4977d9c5c4f9ef28552c62c954775479b14c35836f"), looks := true }, kinds := [], alts := [], laidByText := true, laidKinds := [.data, .data, .data, .sentinel, .sentinel], laidTests := true, laidLooks := .later }
def TomeAllCardSaid : Prop := Claim7.holds Tryz.pinned (.plain (OpenSpec.ofChange tomeAllSpec)) tomeAllCard

/-- THE TIED CARD OF 'armariumlaw5.BookMay'. -/
def bookMayCard : Claim7 := { stood := { row := bookMayRow, standIns := [], harness := (true, "627852208b516639445f7e4977d9c5c4f9ef28552c62c954775479b14c35836f"), looks := true }, kinds := [], alts := [], laidByText := true, laidKinds := [.data, .data, .data, .sentinel, .sentinel], laidTests := true, laidLooks := .later }
def BookMayCardSaid : Prop := Claim7.holds Tryz.pinned (.plain (OpenSpec.ofChange bookMaySpec)) bookMayCard

/-- THE TIED CARD OF 'armariumlaw5.BookTurn'. -/
def bookTurnCard : Claim7 := { stood := { row := bookTurnRow, standIns := [], harness := (true, "627852208b516639445f7e4977d9c5c4f9ef28552c62c954775479b14c35836f"), looks := true }, kinds := [], alts := [], laidByText := true, laidKinds := [.data, .data, .data, .sentinel, .sentinel], laidTests := true, laidLooks := .later }
def BookTurnCardSaid : Prop := Claim7.holds Tryz.pinned (.plain (OpenSpec.ofChange bookTurnSpec)) bookTurnCard

/-- THE TIED CARD OF 'armariumlaw5.BookAll'. -/
def bookAllCard : Claim7 := { stood := { row := bookAllRow, standIns := [], harness := (true, "627852208b516639445f7e4977d9c5c4f9ef28552c62c954775479b14c35836f"), looks := true }, kinds := [], alts := [], laidByText := true, laidKinds := [.data, .data, .data, .sentinel, .sentinel], laidTests := true, laidLooks := .later }
def BookAllCardSaid : Prop := Claim7.holds Tryz.pinned (.plain (OpenSpec.ofChange bookAllSpec)) bookAllCard

/-- THE TIED CARD OF 'armariumlaw5.BookAny'. -/
def bookAnyCard : Claim7 := { stood := { row := bookAnyRow, standIns := [], harness := (true, "627852208b516639445f7e4977d9c5c4f9ef28552c62c954775479b14c35836f"), looks := true }, kinds := [], alts := [], laidByText := true, laidKinds := [.data, .data, .data, .sentinel, .sentinel], laidTests := true, laidLooks := .later }
def BookAnyCardSaid : Prop := Claim7.holds Tryz.pinned (.plain (OpenSpec.ofChange bookAnySpec)) bookAnyCard

/-- THE TIED CARD OF 'armariumlaw5.BookTwice'. -/
def bookTwiceCard : Claim7 := { stood := { row := bookTwiceRow, standIns := [], harness := (true, "627852208b516639445f7e4977d9c5c4f9ef28552c62c954775479b14c35836f"), looks := true }, kinds := [], alts := [], laidByText := true, laidKinds := [.data, .data, .data, .sentinel, .sentinel], laidTests := true, laidLooks := .later }
def BookTwiceCardSaid : Prop := Claim7.holds Tryz.pinned (.plain (OpenSpec.ofChange bookTwiceSpec)) bookTwiceCard

/-- THE TIED CARD OF 'armariumlaw5.BookVersions'. -/
def bookVersionsCard : Claim7 := { stood := { row := bookVersionsRow, standIns := [], harness := (true, "627852208b516639445f7e4977d9c5c4f9ef28552c62c954775479b14c35836f"), looks := true }, kinds := [], alts := [], laidByText := true, laidKinds := [.data, .data, .data, .sentinel, .sentinel], laidTests := true, laidLooks := .later }
def BookVersionsCardSaid : Prop := Claim7.holds Tryz.pinned (.plain (OpenSpec.ofChange bookVersionsSpec)) bookVersionsCard

/-- THE TIED CARD OF 'armariumlaw5.BookFull'. -/
def bookFullCard : Claim7 := { stood := { row := bookFullRow, standIns := [], harness := (true, "627852208b516639445f7e4977d9c5c4f9ef28552c62c954775479b14c35836f"), looks := true }, kinds := [], alts := [], laidByText := true, laidKinds := [.data, .data, .data, .sentinel, .sentinel], laidTests := true, laidLooks := .later }
def BookFullCardSaid : Prop := Claim7.holds Tryz.pinned (.plain (OpenSpec.ofChange bookFullSpec)) bookFullCard

/-- THE TIED CARD OF 'armariumlaw5.DeedKeys'. -/
def deedKeysCard : Claim7 := { stood := { row := deedKeysRow, standIns := [], harness := (true, "627852208b516639445f7e4977d9c5c4f9ef28552c62c954775479b14c35836f"), looks := true }, kinds := [], alts := [], laidByText := true, laidKinds := [.data, .data, .data, .sentinel, .sentinel], laidTests := true, laidLooks := .later }
def DeedKeysCardSaid : Prop := Claim7.holds Tryz.pinned (.plain (OpenSpec.ofChange deedKeysSpec)) deedKeysCard

/-- THE TIED CARD OF 'armariumlaw5.DeedHomes'. -/
def deedHomesCard : Claim7 := { stood := { row := deedHomesRow, standIns := [], harness := (true, "627852208b516639445f7e4977d9c5c4f9ef28552c62c954775479b14c35836f"), looks := true }, kinds := [], alts := [], laidByText := true, laidKinds := [.data, .data, .data, .sentinel, .sentinel], laidTests := true, laidLooks := .later }
def DeedHomesCardSaid : Prop := Claim7.holds Tryz.pinned (.plain (OpenSpec.ofChange deedHomesSpec)) deedHomesCard

/-- THE TIED CARD OF 'armariumlaw5.TomeOwn'. -/
def tomeOwnCard : Claim7 := { stood := { row := tomeOwnRow, standIns := [], harness := (true, "627852208b516639445f7e4977d9c5c4f9ef28552c62c954775479b14c35836f"), looks := true }, kinds := [], alts := [], laidByText := true, laidKinds := [.data, .data, .data, .sentinel, .sentinel], laidTests := true, laidLooks := .later }
def TomeOwnCardSaid : Prop := Claim7.holds Tryz.pinned (.plain (OpenSpec.ofChange tomeOwnSpec)) tomeOwnCard

/-- THE TIED CARD OF 'armariumlaw5.TomeMany'. -/
def tomeManyCard : Claim7 := { stood := { row := tomeManyRow, standIns := [], harness := (true, "627852208b516639445f7e4977d9c5c4f9ef28552c62c954775479b14c35836f"), looks := true }, kinds := [], alts := [], laidByText := true, laidKinds := [.data, .data, .data, .sentinel, .sentinel], laidTests := true, laidLooks := .later }
def TomeManyCardSaid : Prop := Claim7.holds Tryz.pinned (.plain (OpenSpec.ofChange tomeManySpec)) tomeManyCard

/-- THE TIED CARD OF 'armariumlaw5.BookKeys'. -/
def bookKeysCard : Claim7 := { stood := { row := bookKeysRow, standIns := [], harness := (true, "627852208b516639445f7e4977d9c5c4f9ef28552c62c954775479b14c35836f"), looks := true }, kinds := [], alts := [], laidByText := true, laidKinds := [.data, .data, .data, .sentinel, .sentinel], laidTests := true, laidLooks := .later }
def BookKeysCardSaid : Prop := Claim7.holds Tryz.pinned (.plain (OpenSpec.ofChange bookKeysSpec)) bookKeysCard

/-- THE TIED CARD OF 'armariumlaw5.BookConds'. -/
def bookCondsCard : Claim7 := { stood := { row := bookCondsRow, standIns := [], harness := (true, "627852208b516639445f7e4977d9c5c4f9ef28552c62c954775479b14c35836f"), looks := true }, kinds := [], alts := [], laidByText := true, laidKinds := [.data, .data, .data, .sentinel, .sentinel], laidTests := true, laidLooks := .later }
def BookCondsCardSaid : Prop := Claim7.holds Tryz.pinned (.plain (OpenSpec.ofChange bookCondsSpec)) bookCondsCard

/-- THE TIED CARD OF 'armariumlaw5.BookDelete'. -/
def bookDeleteCard : Claim7 := { stood := { row := bookDeleteRow, standIns := [], harness := (true, "627852208b516639445f7e4977d9c5c4f9ef28552c62c954775479b14c35836f"), looks := true }, kinds := [], alts := [], laidByText := true, laidKinds := [.data, .data, .data, .sentinel, .sentinel], laidTests := true, laidLooks := .later }
def BookDeleteCardSaid : Prop := Claim7.holds Tryz.pinned (.plain (OpenSpec.ofChange bookDeleteSpec)) bookDeleteCard

/-- THE TIED CARD OF 'armariumlaw5.BookLows'. -/
def bookLowsCard : Claim7 := { stood := { row := bookLowsRow, standIns := [], harness := (true, "627852208b516639445f7e4977d9c5c4f9ef28552c62c954775479b14c35836f"), looks := true }, kinds := [], alts := [], laidByText := true, laidKinds := [.data, .data, .data, .sentinel, .sentinel], laidTests := true, laidLooks := .later }
def BookLowsCardSaid : Prop := Claim7.holds Tryz.pinned (.plain (OpenSpec.ofChange bookLowsSpec)) bookLowsCard

/-- THE TIED CARD OF 'armariumlaw5.BookReads'. -/
def bookReadsCard : Claim7 := { stood := { row := bookReadsRow, standIns := [], harness := (true, "627852208b516639445f7e4977d9c5c4f9ef28552c62c954775479b14c35836f"), looks := true }, kinds := [], alts := [], laidByText := true, laidKinds := [.data, .data, .data, .sentinel, .sentinel], laidTests := true, laidLooks := .later }
def BookReadsCardSaid : Prop := Claim7.holds Tryz.pinned (.plain (OpenSpec.ofChange bookReadsSpec)) bookReadsCard

/-- THE SECOND FORM's CARD OF 'armariumlaw5.DeedAll'. -/
def deedAllUptoCard : Claim7 := { stood := { row := deedAllUptoRow, standIns := [], harness := (true, "627852208b516639445f7e4977d9c5c4f9ef28552c62c954775479b14c35836f"), looks := true }, kinds := [], alts := [], laidByText := true, laidKinds := [.data, .data, .data, .sentinel, .sentinel], laidTests := true, laidLooks := .later }
def DeedAllUptoCardSaid : Prop := Claim7.holds Tryz.pinned (.plain (OpenSpec.upto deedAllSpec)) deedAllUptoCard

/-- THE SECOND FORM's CARD OF 'armariumlaw5.DeedAny'. -/
def deedAnyUptoCard : Claim7 := { stood := { row := deedAnyUptoRow, standIns := [], harness := (true, "627852208b516639445f7e4977d9c5c4f9ef28552c62c954775479b14c35836f"), looks := true }, kinds := [], alts := [], laidByText := true, laidKinds := [.data, .data, .data, .sentinel, .sentinel], laidTests := true, laidLooks := .later }
def DeedAnyUptoCardSaid : Prop := Claim7.holds Tryz.pinned (.plain (OpenSpec.upto deedAnySpec)) deedAnyUptoCard

/-- THE SECOND FORM's CARD OF 'armariumlaw5.DeedTurn'. -/
def deedTurnUptoCard : Claim7 := { stood := { row := deedTurnUptoRow, standIns := [], harness := (true, "627852208b516639445f7e4977d9c5c4f9ef28552c62c954775479b14c35836f"), looks := true }, kinds := [], alts := [], laidByText := true, laidKinds := [.data, .data, .data, .sentinel, .sentinel], laidTests := true, laidLooks := .later }
def DeedTurnUptoCardSaid : Prop := Claim7.holds Tryz.pinned (.plain (OpenSpec.upto deedTurnSpec)) deedTurnUptoCard

/-- THE SECOND FORM's CARD OF 'armariumlaw5.TomeAll'. -/
def tomeAllUptoCard : Claim7 := { stood := { row := tomeAllUptoRow, standIns := [], harness := (true, "627852208b516639445f7e4977d9c5c4f9ef28552c62c954775479b14c35836f"), looks := true }, kinds := [], alts := [], laidByText := true, laidKinds := [.data, .data, .data, .sentinel, .sentinel], laidTests := true, laidLooks := .later }
def TomeAllUptoCardSaid : Prop := Claim7.holds Tryz.pinned (.plain (OpenSpec.upto tomeAllSpec)) tomeAllUptoCard

/-- THE SECOND FORM's CARD OF 'armariumlaw5.BookMay'. -/
def bookMayUptoCard : Claim7 := { stood := { row := bookMayUptoRow, standIns := [], harness := (true, "627852208b516639445f7e4977d9c5c4f9ef28552c62c954775479b14c35836f"), looks := true }, kinds := [], alts := [], laidByText := true, laidKinds := [.data, .data, .data, .sentinel, .sentinel], laidTests := true, laidLooks := .later }
def BookMayUptoCardSaid : Prop := Claim7.holds Tryz.pinned (.plain (OpenSpec.upto bookMaySpec)) bookMayUptoCard

/-- THE SECOND FORM's CARD OF 'armariumlaw5.BookTurn'. -/
def bookTurnUptoCard : Claim7 := { stood := { row := bookTurnUptoRow, standIns := [], harness := (true, "627852208b516639445f7e4977d9c5c4f9ef28552c62c954775479b14c35836f"), looks := true }, kinds := [], alts := [], laidByText := true, laidKinds := [.data, .data, .data, .sentinel, .sentinel], laidTests := true, laidLooks := .later }
def BookTurnUptoCardSaid : Prop := Claim7.holds Tryz.pinned (.plain (OpenSpec.upto bookTurnSpec)) bookTurnUptoCard

/-- THE SECOND FORM's CARD OF 'armariumlaw5.BookAll'. -/
def bookAllUptoCard : Claim7 := { stood := { row := bookAllUptoRow, standIns := [], harness := (true, "627852208b516639445f7e4977d9c5c4f9ef28552c62c954775479b14c35836f"), looks := true }, kinds := [], alts := [], laidByText := true, laidKinds := [.data, .data, .data, .sentinel, .sentinel], laidTests := true, laidLooks := .later }
def BookAllUptoCardSaid : Prop := Claim7.holds Tryz.pinned (.plain (OpenSpec.upto bookAllSpec)) bookAllUptoCard

/-- THE SECOND FORM's CARD OF 'armariumlaw5.BookAny'. -/
def bookAnyUptoCard : Claim7 := { stood := { row := bookAnyUptoRow, standIns := [], harness := (true, "627852208b516639445f7e4977d9c5c4f9ef28552c62c954775479b14c35836f"), looks := true }, kinds := [], alts := [], laidByText := true, laidKinds := [.data, .data, .data, .sentinel, .sentinel], laidTests := true, laidLooks := .later }
def BookAnyUptoCardSaid : Prop := Claim7.holds Tryz.pinned (.plain (OpenSpec.upto bookAnySpec)) bookAnyUptoCard

/-- THE SECOND FORM's CARD OF 'armariumlaw5.BookTwice'. -/
def bookTwiceUptoCard : Claim7 := { stood := { row := bookTwiceUptoRow, standIns := [], harness := (true, "627852208b516639445f7e4977d9c5c4f9ef28552c62c954775479b14c35836f"), looks := true }, kinds := [], alts := [], laidByText := true, laidKinds := [.data, .data, .data, .sentinel, .sentinel], laidTests := true, laidLooks := .later }
def BookTwiceUptoCardSaid : Prop := Claim7.holds Tryz.pinned (.plain (OpenSpec.upto bookTwiceSpec)) bookTwiceUptoCard

/-- THE SECOND FORM's CARD OF 'armariumlaw5.BookVersions'. -/
def bookVersionsUptoCard : Claim7 := { stood := { row := bookVersionsUptoRow, standIns := [], harness := (true, "627852208b516639445f7e4977d9c5c4f9ef28552c62c954775479b14c35836f"), looks := true }, kinds := [], alts := [], laidByText := true, laidKinds := [.data, .data, .data, .sentinel, .sentinel], laidTests := true, laidLooks := .later }
def BookVersionsUptoCardSaid : Prop := Claim7.holds Tryz.pinned (.plain (OpenSpec.upto bookVersionsSpec)) bookVersionsUptoCard

/-- THE SECOND FORM's CARD OF 'armariumlaw5.BookFull'. -/
def bookFullUptoCard : Claim7 := { stood := { row := bookFullUptoRow, standIns := [], harness := (true, "627852208b516639445f7e4977d9c5c4f9ef28552c62c954775479b14c35836f"), looks := true }, kinds := [], alts := [], laidByText := true, laidKinds := [.data, .data, .data, .sentinel, .sentinel], laidTests := true, laidLooks := .later }
def BookFullUptoCardSaid : Prop := Claim7.holds Tryz.pinned (.plain (OpenSpec.upto bookFullSpec)) bookFullUptoCard

/-- THE SECOND FORM's CARD OF 'armariumlaw5.DeedKeys'. -/
def deedKeysUptoCard : Claim7 := { stood := { row := deedKeysUptoRow, standIns := [], harness := (true, "627852208b516639445f7e4977d9c5c4f9ef28552c62c954775479b14c35836f"), looks := true }, kinds := [], alts := [], laidByText := true, laidKinds := [.data, .data, .data, .sentinel, .sentinel], laidTests := true, laidLooks := .later }
def DeedKeysUptoCardSaid : Prop := Claim7.holds Tryz.pinned (.plain (OpenSpec.upto deedKeysSpec)) deedKeysUptoCard

/-- THE SECOND FORM's CARD OF 'armariumlaw5.DeedHomes'. -/
def deedHomesUptoCard : Claim7 := { stood := { row := deedHomesUptoRow, standIns := [], harness := (true, "627852208b516639445f7e4977d9c5c4f9ef28552c62c954775479b14c35836f"), looks := true }, kinds := [], alts := [], laidByText := true, laidKinds := [.data, .data, .data, .sentinel, .sentinel], laidTests := true, laidLooks := .later }
def DeedHomesUptoCardSaid : Prop := Claim7.holds Tryz.pinned (.plain (OpenSpec.upto deedHomesSpec)) deedHomesUptoCard

/-- THE SECOND FORM's CARD OF 'armariumlaw5.TomeOwn'. -/
def tomeOwnUptoCard : Claim7 := { stood := { row := tomeOwnUptoRow, standIns := [], harness := (true, "627852208b516639445f7e4977d9c5c4f9ef28552c62c954775479b14c35836f"), looks := true }, kinds := [], alts := [], laidByText := true, laidKinds := [.data, .data, .data, .sentinel, .sentinel], laidTests := true, laidLooks := .later }
def TomeOwnUptoCardSaid : Prop := Claim7.holds Tryz.pinned (.plain (OpenSpec.upto tomeOwnSpec)) tomeOwnUptoCard

/-- THE SECOND FORM's CARD OF 'armariumlaw5.TomeMany'. -/
def tomeManyUptoCard : Claim7 := { stood := { row := tomeManyUptoRow, standIns := [], harness := (true, "627852208b516639445f7e4977d9c5c4f9ef28552c62c954775479b14c35836f"), looks := true }, kinds := [], alts := [], laidByText := true, laidKinds := [.data, .data, .data, .sentinel, .sentinel], laidTests := true, laidLooks := .later }
def TomeManyUptoCardSaid : Prop := Claim7.holds Tryz.pinned (.plain (OpenSpec.upto tomeManySpec)) tomeManyUptoCard

/-- THE SECOND FORM's CARD OF 'armariumlaw5.BookKeys'. -/
def bookKeysUptoCard : Claim7 := { stood := { row := bookKeysUptoRow, standIns := [], harness := (true, "627852208b516639445f7e4977d9c5c4f9ef28552c62c954775479b14c35836f"), looks := true }, kinds := [], alts := [], laidByText := true, laidKinds := [.data, .data, .data, .sentinel, .sentinel], laidTests := true, laidLooks := .later }
def BookKeysUptoCardSaid : Prop := Claim7.holds Tryz.pinned (.plain (OpenSpec.upto bookKeysSpec)) bookKeysUptoCard

/-- THE SECOND FORM's CARD OF 'armariumlaw5.BookConds'. -/
def bookCondsUptoCard : Claim7 := { stood := { row := bookCondsUptoRow, standIns := [], harness := (true, "627852208b516639445f7e4977d9c5c4f9ef28552c62c954775479b14c35836f"), looks := true }, kinds := [], alts := [], laidByText := true, laidKinds := [.data, .data, .data, .sentinel, .sentinel], laidTests := true, laidLooks := .later }
def BookCondsUptoCardSaid : Prop := Claim7.holds Tryz.pinned (.plain (OpenSpec.upto bookCondsSpec)) bookCondsUptoCard

/-- THE SECOND FORM's CARD OF 'armariumlaw5.BookDelete'. -/
def bookDeleteUptoCard : Claim7 := { stood := { row := bookDeleteUptoRow, standIns := [], harness := (true, "627852208b516639445f7e4977d9c5c4f9ef28552c62c954775479b14c35836f"), looks := true }, kinds := [], alts := [], laidByText := true, laidKinds := [.data, .data, .data, .sentinel, .sentinel], laidTests := true, laidLooks := .later }
def BookDeleteUptoCardSaid : Prop := Claim7.holds Tryz.pinned (.plain (OpenSpec.upto bookDeleteSpec)) bookDeleteUptoCard

/-- THE SECOND FORM's CARD OF 'armariumlaw5.BookLows'. -/
def bookLowsUptoCard : Claim7 := { stood := { row := bookLowsUptoRow, standIns := [], harness := (true, "627852208b516639445f7e4977d9c5c4f9ef28552c62c954775479b14c35836f"), looks := true }, kinds := [], alts := [], laidByText := true, laidKinds := [.data, .data, .data, .sentinel, .sentinel], laidTests := true, laidLooks := .later }
def BookLowsUptoCardSaid : Prop := Claim7.holds Tryz.pinned (.plain (OpenSpec.upto bookLowsSpec)) bookLowsUptoCard

/-- THE SECOND FORM's CARD OF 'armariumlaw5.BookReads'. -/
def bookReadsUptoCard : Claim7 := { stood := { row := bookReadsUptoRow, standIns := [], harness := (true, "627852208b516639445f7e4977d9c5c4f9ef28552c62c954775479b14c35836f"), looks := true }, kinds := [], alts := [], laidByText := true, laidKinds := [.data, .data, .data, .sentinel, .sentinel], laidTests := true, laidLooks := .later }
def BookReadsUptoCardSaid : Prop := Claim7.holds Tryz.pinned (.plain (OpenSpec.upto bookReadsSpec)) bookReadsUptoCard
end Rows
end Go.Proofs.YtbmoimihnndboaaGreatDoor
