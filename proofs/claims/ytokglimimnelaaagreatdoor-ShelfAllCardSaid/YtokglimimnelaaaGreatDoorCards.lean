/-
  DERIVED. GIVEN WITH THE SEED: THE CARDS: each row of YtokglimimnelaaaGreatDoorRows.lean that lists a variable, with what it lists TIED to the program's text (the seventh form; the later family's looks); each row that meets fmt, with fmt's text TOLD by the authors' own Lean function (tested against real Go, not proved from fmt's source: count such statements apart). THE CARD IS WHAT COUNTS. Prove the row's statement (the work); the ties are given (YtokglimimnelaaaGreatDoorTie.lean); close each card by the builder's one call (the guide's Derived/Test/ToyasCard.lean, 'card_holds'). Laid BY PROGRAM, IN A SANDBOX (cutbox-door.mjs). By AI agents, Wed Nov 11 2026. No macro, syntax, notation, axiom, sorry.
-/
import Derived.Test.YtokglimimnelaaaGreatDoorRows
import GoSem.ClaimSeven
namespace Go.Proofs.YtokglimimnelaaaGreatDoor
namespace Rows

/-- THE TIED CARD OF 'armariumlaw8.ShelfLost'. -/
def shelfLostCard : Claim7 := { stood := { row := shelfLostRow, standIns := [], harness := (true, "b5a683c7744cefbc7a6405390a336907d3bff5d0b303fe2c7607c4c7fe0bcbbd"), looks := true }, kinds := [], alts := [], laidByText := true, laidKinds := [.data, .data, .data, .sentinel, .sentinel], laidTests := true, laidLooks := .later }
def ShelfLostCardSaid : Prop := Claim7.holds Tryz.pinned (.plain (OpenSpec.ofChange shelfLostSpec)) shelfLostCard

/-- THE TIED CARD OF 'armariumlaw8.ShelfFull'. -/
def shelfFullCard : Claim7 := { stood := { row := shelfFullRow, standIns := [], harness := (true, "b5a683c7744cefbc7a6405390a336907d3bff5d0b303fe2c7607c4c7fe0bcbbd"), looks := true }, kinds := [], alts := [], laidByText := true, laidKinds := [.data, .data, .data, .sentinel, .sentinel], laidTests := true, laidLooks := .later }
def ShelfFullCardSaid : Prop := Claim7.holds Tryz.pinned (.plain (OpenSpec.ofChange shelfFullSpec)) shelfFullCard

/-- THE TIED CARD OF 'armariumlaw8.ShelfOwn'. -/
def shelfOwnCard : Claim7 := { stood := { row := shelfOwnRow, standIns := [], harness := (true, "b5a683c7744cefbc7a6405390a336907d3bff5d0b303fe2c7607c4c7fe0bcbbd"), looks := true }, kinds := [], alts := [], laidByText := true, laidKinds := [.data, .data, .data, .sentinel, .sentinel], laidTests := true, laidLooks := .later }
def ShelfOwnCardSaid : Prop := Claim7.holds Tryz.pinned (.plain (OpenSpec.ofChange shelfOwnSpec)) shelfOwnCard

/-- THE TIED CARD OF 'armariumlaw8.ShelfRoom'. -/
def shelfRoomCard : Claim7 := { stood := { row := shelfRoomRow, standIns := [], harness := (true, "b5a683c7744cefbc7a6405390a336907d3bff5d0b303fe2c7607c4c7fe0bcbbd"), looks := true }, kinds := [], alts := [], laidByText := true, laidKinds := [.data, .data, .data, .sentinel, .sentinel], laidTests := true, laidLooks := .later }
def ShelfRoomCardSaid : Prop := Claim7.holds Tryz.pinned (.plain (OpenSpec.ofChange shelfRoomSpec)) shelfRoomCard

/-- THE TIED CARD OF 'armariumlaw8.ShelfOrder'. -/
def shelfOrderCard : Claim7 := { stood := { row := shelfOrderRow, standIns := [], harness := (true, "b5a683c7744cefbc7a6405390a336907d3bff5d0b303fe2c7607c4c7fe0bcbbd"), looks := true }, kinds := [], alts := [], laidByText := true, laidKinds := [.data, .data, .data, .sentinel, .sentinel], laidTests := true, laidLooks := .later }
def ShelfOrderCardSaid : Prop := Claim7.holds Tryz.pinned (.plain (OpenSpec.ofChange shelfOrderSpec)) shelfOrderCard

/-- THE TIED CARD OF 'armariumlaw8.ShelfEpochs'. -/
def shelfEpochsCard : Claim7 := { stood := { row := shelfEpochsRow, standIns := [], harness := (true, "b5a683c7744cefbc7a6405390a336907d3bff5d0b303fe2c7607c4c7fe0bcbbd"), looks := true }, kinds := [], alts := [], laidByText := true, laidKinds := [.data, .data, .data, .sentinel, .sentinel], laidTests := true, laidLooks := .later }
def ShelfEpochsCardSaid : Prop := Claim7.holds Tryz.pinned (.plain (OpenSpec.ofChange shelfEpochsSpec)) shelfEpochsCard

/-- THE TIED CARD OF 'armariumlaw8.ShelfPack'. -/
def shelfPackCard : Claim7 := { stood := { row := shelfPackRow, standIns := [], harness := (true, "b5a683c7744cefbc7a6405390a336907d3bff5d0b303fe2c7607c4c7fe0bcbbd"), looks := true }, kinds := [], alts := [], laidByText := true, laidKinds := [.data, .data, .data, .sentinel, .sentinel], laidTests := true, laidLooks := .later }
def ShelfPackCardSaid : Prop := Claim7.holds Tryz.pinned (.plain (OpenSpec.ofChange shelfPackSpec)) shelfPackCard

/-- THE TIED CARD OF 'armariumlaw8.ShelfLearn'. -/
def shelfLearnCard : Claim7 := { stood := { row := shelfLearnRow, standIns := [], harness := (true, "b5a683c7744cefbc7a6405390a336907d3bff5d0b303fe2c7607c4c7fe0bcbbd"), looks := true }, kinds := [], alts := [], laidByText := true, laidKinds := [.data, .data, .data, .sentinel, .sentinel], laidTests := true, laidLooks := .later }
def ShelfLearnCardSaid : Prop := Claim7.holds Tryz.pinned (.plain (OpenSpec.ofChange shelfLearnSpec)) shelfLearnCard

/-- THE TIED CARD OF 'armariumlaw8.ShelfAll'. -/
def shelfAllCard : Claim7 := { stood := { row := shelfAllRow, standIns := [], harness := (true, "b5a683c7744cefbc7a6405390a336907d3bff5d0b303fe2c7607c4c7fe0bcbbd"), looks := true }, kinds := [], alts := [], laidByText := true, laidKinds := [.data, .data, .data, .sentinel, .sentinel], laidTests := true, laidLooks := .later }
def ShelfAllCardSaid : Prop := Claim7.holds Tryz.pinned (.plain (OpenSpec.ofChange shelfAllSpec)) shelfAllCard

/-- THE TIED CARD OF 'armariumlaw8.ShelfNone'. -/
def shelfNoneCard : Claim7 := { stood := { row := shelfNoneRow, standIns := [], harness := (true, "b5a683c7744cefbc7a6405390a336907d3bff5d0b303fe2c7607c4c7fe0bcbbd"), looks := true }, kinds := [], alts := [], laidByText := true, laidKinds := [.data, .data, .data, .sentinel, .sentinel], laidTests := true, laidLooks := .later }
def ShelfNoneCardSaid : Prop := Claim7.holds Tryz.pinned (.plain (OpenSpec.ofChange shelfNoneSpec)) shelfNoneCard

/-- THE SECOND FORM's CARD OF 'armariumlaw8.ShelfLost'. -/
def shelfLostUptoCard : Claim7 := { stood := { row := shelfLostUptoRow, standIns := [], harness := (true, "b5a683c7744cefbc7a6405390a336907d3bff5d0b303fe2c7607c4c7fe0bcbbd"), looks := true }, kinds := [], alts := [], laidByText := true, laidKinds := [.data, .data, .data, .sentinel, .sentinel], laidTests := true, laidLooks := .later }
def ShelfLostUptoCardSaid : Prop := Claim7.holds Tryz.pinned (.plain (OpenSpec.upto shelfLostSpec)) shelfLostUptoCard

/-- THE SECOND FORM's CARD OF 'armariumlaw8.ShelfFull'. -/
def shelfFullUptoCard : Claim7 := { stood := { row := shelfFullUptoRow, standIns := [], harness := (true, "b5a683c7744cefbc7a6405390a336907d3bff5d0b303fe2c7607c4c7fe0bcbbd"), looks := true }, kinds := [], alts := [], laidByText := true, laidKinds := [.data, .data, .data, .sentinel, .sentinel], laidTests := true, laidLooks := .later }
def ShelfFullUptoCardSaid : Prop := Claim7.holds Tryz.pinned (.plain (OpenSpec.upto shelfFullSpec)) shelfFullUptoCard

/-- THE SECOND FORM's CARD OF 'armariumlaw8.ShelfOwn'. -/
def shelfOwnUptoCard : Claim7 := { stood := { row := shelfOwnUptoRow, standIns := [], harness := (true, "b5a683c7744cefbc7a6405390a336907d3bff5d0b303fe2c7607c4c7fe0bcbbd"), looks := true }, kinds := [], alts := [], laidByText := true, laidKinds := [.data, .data, .data, .sentinel, .sentinel], laidTests := true, laidLooks := .later }
def ShelfOwnUptoCardSaid : Prop := Claim7.holds Tryz.pinned (.plain (OpenSpec.upto shelfOwnSpec)) shelfOwnUptoCard

/-- THE SECOND FORM's CARD OF 'armariumlaw8.ShelfRoom'. -/
def shelfRoomUptoCard : Claim7 := { stood := { row := shelfRoomUptoRow, standIns := [], harness := (true, "b5a683c7744cefbc7a6405390a336907d3bff5d0b303fe2c7607c4c7fe0bcbbd"), looks := true }, kinds := [], alts := [], laidByText := true, laidKinds := [.data, .data, .data, .sentinel, .sentinel], laidTests := true, laidLooks := .later }
def ShelfRoomUptoCardSaid : Prop := Claim7.holds Tryz.pinned (.plain (OpenSpec.upto shelfRoomSpec)) shelfRoomUptoCard

/-- THE SECOND FORM's CARD OF 'armariumlaw8.ShelfOrder'. -/
def shelfOrderUptoCard : Claim7 := { stood := { row := shelfOrderUptoRow, standIns := [], harness := (true, "b5a683c7744cefbc7a6405390a336907d3bff5d0b303fe2c7607c4c7fe0bcbbd"), looks := true }, kinds := [], alts := [], laidByText := true, laidKinds := [.data, .data, .data, .sentinel, .sentinel], laidTests := true, laidLooks := .later }
def ShelfOrderUptoCardSaid : Prop := Claim7.holds Tryz.pinned (.plain (OpenSpec.upto shelfOrderSpec)) shelfOrderUptoCard

/-- THE SECOND FORM's CARD OF 'armariumlaw8.ShelfEpochs'. -/
def shelfEpochsUptoCard : Claim7 := { stood := { row := shelfEpochsUptoRow, standIns := [], harness := (true, "b5a683c7744cefbc7a6405390a336907d3bff5d0b303fe2c7607c4c7fe0bcbbd"), looks := true }, kinds := [], alts := [], laidByText := true, laidKinds := [.data, .data, .data, .sentinel, .sentinel], laidTests := true, laidLooks := .later }
def ShelfEpochsUptoCardSaid : Prop := Claim7.holds Tryz.pinned (.plain (OpenSpec.upto shelfEpochsSpec)) shelfEpochsUptoCard

/-- THE SECOND FORM's CARD OF 'armariumlaw8.ShelfPack'. -/
def shelfPackUptoCard : Claim7 := { stood := { row := shelfPackUptoRow, standIns := [], harness := (true, "b5a683c7744cefbc7a6405390a336907d3bff5d0b303fe2c7607c4c7fe0bcbbd"), looks := true }, kinds := [], alts := [], laidByText := true, laidKinds := [.data, .data, .data, .sentinel, .sentinel], laidTests := true, laidLooks := .later }
def ShelfPackUptoCardSaid : Prop := Claim7.holds Tryz.pinned (.plain (OpenSpec.upto shelfPackSpec)) shelfPackUptoCard

/-- THE SECOND FORM's CARD OF 'armariumlaw8.ShelfLearn'. -/
def shelfLearnUptoCard : Claim7 := { stood := { row := shelfLearnUptoRow, standIns := [], harness := (true, "b5a683c7744cefbc7a6405390a336907d3bff5d0b303fe2c7607c4c7fe0bcbbd"), looks := true }, kinds := [], alts := [], laidByText := true, laidKinds := [.data, .data, .data, .sentinel, .sentinel], laidTests := true, laidLooks := .later }
def ShelfLearnUptoCardSaid : Prop := Claim7.holds Tryz.pinned (.plain (OpenSpec.upto shelfLearnSpec)) shelfLearnUptoCard

/-- THE SECOND FORM's CARD OF 'armariumlaw8.ShelfAll'. -/
def shelfAllUptoCard : Claim7 := { stood := { row := shelfAllUptoRow, standIns := [], harness := (true, "b5a683c7744cefbc7a6405390a336907d3bff5d0b303fe2c7607c4c7fe0bcbbd"), looks := true }, kinds := [], alts := [], laidByText := true, laidKinds := [.data, .data, .data, .sentinel, .sentinel], laidTests := true, laidLooks := .later }
def ShelfAllUptoCardSaid : Prop := Claim7.holds Tryz.pinned (.plain (OpenSpec.upto shelfAllSpec)) shelfAllUptoCard

/-- THE SECOND FORM's CARD OF 'armariumlaw8.ShelfNone'. -/
def shelfNoneUptoCard : Claim7 := { stood := { row := shelfNoneUptoRow, standIns := [], harness := (true, "b5a683c7744cefbc7a6405390a336907d3bff5d0b303fe2c7607c4c7fe0bcbbd"), looks := true }, kinds := [], alts := [], laidByText := true, laidKinds := [.data, .data, .data, .sentinel, .sentinel], laidTests := true, laidLooks := .later }
def ShelfNoneUptoCardSaid : Prop := Claim7.holds Tryz.pinned (.plain (OpenSpec.upto shelfNoneSpec)) shelfNoneUptoCard
end Rows
end Go.Proofs.YtokglimimnelaaaGreatDoor
