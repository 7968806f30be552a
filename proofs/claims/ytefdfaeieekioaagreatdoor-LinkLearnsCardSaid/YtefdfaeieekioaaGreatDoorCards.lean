/-
  DERIVED. GIVEN WITH THE SEED: THE CARDS: each row of YtefdfaeieekioaaGreatDoorRows.lean that lists a variable, with what it lists TIED to the program's text (the seventh form; the later family's looks); each row that meets fmt, with fmt's text TOLD by the authors' own Lean function (tested against real Go, not proved from fmt's source: count such statements apart). THE CARD IS WHAT COUNTS. Prove the row's statement (the work); the ties are given (YtefdfaeieekioaaGreatDoorTie.lean); close each card by the builder's one call (the guide's Derived/Test/ToyasCard.lean, 'card_holds'). Laid BY PROGRAM, IN A SANDBOX (cutbox-door.mjs). By AI agents, Wed Nov 11 2026. No macro, syntax, notation, axiom, sorry.
-/
import Derived.Test.YtefdfaeieekioaaGreatDoorRows
import GoSem.ClaimSeven
namespace Go.Proofs.YtefdfaeieekioaaGreatDoor
namespace Rows

/-- THE TIED CARD OF 'armariumlaw13.LinkTwo'. -/
def linkTwoCard : Claim7 := { stood := { row := linkTwoRow, standIns := [], harness := (true, "903c1bef413ad3524c8807e68f16538d761045b1eb3b9220f4b98bcec6d94d70"), looks := true }, kinds := [], alts := [], laidByText := true, laidKinds := [.data, .data, .data, .sentinel, .sentinel], laidTests := true, laidLooks := .later }
def LinkTwoCardSaid : Prop := Claim7.holds Tryz.pinned (.plain (OpenSpec.ofChange linkTwoSpec)) linkTwoCard

/-- THE TIED CARD OF 'armariumlaw13.LinkLearns'. -/
def linkLearnsCard : Claim7 := { stood := { row := linkLearnsRow, standIns := [], harness := (true, "903c1bef413ad3524c8807e68f16538d761045b1eb3b9220f4b98bcec6d94d70"), looks := true }, kinds := [], alts := [], laidByText := true, laidKinds := [.data, .data, .data, .sentinel, .sentinel], laidTests := true, laidLooks := .later }
def LinkLearnsCardSaid : Prop := Claim7.holds Tryz.pinned (.plain (OpenSpec.ofChange linkLearnsSpec)) linkLearnsCard

/-- THE TIED CARD OF 'armariumlaw13.LinkOld'. -/
def linkOldCard : Claim7 := { stood := { row := linkOldRow, standIns := [], harness := (true, "903c1bef413ad3524c8807e68f16538d761045b1eb3b9220f4b98bcec6d94d70"), looks := true }, kinds := [], alts := [], laidByText := true, laidKinds := [.data, .data, .data, .sentinel, .sentinel], laidTests := true, laidLooks := .later }
def LinkOldCardSaid : Prop := Claim7.holds Tryz.pinned (.plain (OpenSpec.ofChange linkOldSpec)) linkOldCard

/-- THE TIED CARD OF 'armariumlaw13.LinkLease'. -/
def linkLeaseCard : Claim7 := { stood := { row := linkLeaseRow, standIns := [], harness := (true, "903c1bef413ad3524c8807e68f16538d761045b1eb3b9220f4b98bcec6d94d70"), looks := true }, kinds := [], alts := [], laidByText := true, laidKinds := [.data, .data, .data, .sentinel, .sentinel], laidTests := true, laidLooks := .later }
def LinkLeaseCardSaid : Prop := Claim7.holds Tryz.pinned (.plain (OpenSpec.ofChange linkLeaseSpec)) linkLeaseCard

/-- THE TIED CARD OF 'armariumlaw13.LinkTail'. -/
def linkTailCard : Claim7 := { stood := { row := linkTailRow, standIns := [], harness := (true, "903c1bef413ad3524c8807e68f16538d761045b1eb3b9220f4b98bcec6d94d70"), looks := true }, kinds := [], alts := [], laidByText := true, laidKinds := [.data, .data, .data, .sentinel, .sentinel], laidTests := true, laidLooks := .later }
def LinkTailCardSaid : Prop := Claim7.holds Tryz.pinned (.plain (OpenSpec.ofChange linkTailSpec)) linkTailCard

/-- THE TIED CARD OF 'armariumlaw13.LinkPass'. -/
def linkPassCard : Claim7 := { stood := { row := linkPassRow, standIns := [], harness := (true, "903c1bef413ad3524c8807e68f16538d761045b1eb3b9220f4b98bcec6d94d70"), looks := true }, kinds := [], alts := [], laidByText := true, laidKinds := [.data, .data, .data, .sentinel, .sentinel], laidTests := true, laidLooks := .later }
def LinkPassCardSaid : Prop := Claim7.holds Tryz.pinned (.plain (OpenSpec.ofChange linkPassSpec)) linkPassCard

/-- THE TIED CARD OF 'armariumlaw13.LinkAcks'. -/
def linkAcksCard : Claim7 := { stood := { row := linkAcksRow, standIns := [], harness := (true, "903c1bef413ad3524c8807e68f16538d761045b1eb3b9220f4b98bcec6d94d70"), looks := true }, kinds := [], alts := [], laidByText := true, laidKinds := [.data, .data, .data, .sentinel, .sentinel], laidTests := true, laidLooks := .later }
def LinkAcksCardSaid : Prop := Claim7.holds Tryz.pinned (.plain (OpenSpec.ofChange linkAcksSpec)) linkAcksCard

/-- THE TIED CARD OF 'armariumlaw13.LinkNeeds'. -/
def linkNeedsCard : Claim7 := { stood := { row := linkNeedsRow, standIns := [], harness := (true, "903c1bef413ad3524c8807e68f16538d761045b1eb3b9220f4b98bcec6d94d70"), looks := true }, kinds := [], alts := [], laidByText := true, laidKinds := [.data, .data, .data, .sentinel, .sentinel], laidTests := true, laidLooks := .later }
def LinkNeedsCardSaid : Prop := Claim7.holds Tryz.pinned (.plain (OpenSpec.ofChange linkNeedsSpec)) linkNeedsCard

/-- THE TIED CARD OF 'armariumlaw13.LinkWrites'. -/
def linkWritesCard : Claim7 := { stood := { row := linkWritesRow, standIns := [], harness := (true, "903c1bef413ad3524c8807e68f16538d761045b1eb3b9220f4b98bcec6d94d70"), looks := true }, kinds := [], alts := [], laidByText := true, laidKinds := [.data, .data, .data, .sentinel, .sentinel], laidTests := true, laidLooks := .later }
def LinkWritesCardSaid : Prop := Claim7.holds Tryz.pinned (.plain (OpenSpec.ofChange linkWritesSpec)) linkWritesCard

/-- THE TIED CARD OF 'armariumlaw13.LinkForeign'. -/
def linkForeignCard : Claim7 := { stood := { row := linkForeignRow, standIns := [], harness := (true, "903c1bef413ad3524c8807e68f16538d761045b1eb3b9220f4b98bcec6d94d70"), looks := true }, kinds := [], alts := [], laidByText := true, laidKinds := [.data, .data, .data, .sentinel, .sentinel], laidTests := true, laidLooks := .later }
def LinkForeignCardSaid : Prop := Claim7.holds Tryz.pinned (.plain (OpenSpec.ofChange linkForeignSpec)) linkForeignCard

/-- THE TIED CARD OF 'armariumlaw13.LinkNone'. -/
def linkNoneCard : Claim7 := { stood := { row := linkNoneRow, standIns := [], harness := (true, "903c1bef413ad3524c8807e68f16538d761045b1eb3b9220f4b98bcec6d94d70"), looks := true }, kinds := [], alts := [], laidByText := true, laidKinds := [.data, .data, .data, .sentinel, .sentinel], laidTests := true, laidLooks := .later }
def LinkNoneCardSaid : Prop := Claim7.holds Tryz.pinned (.plain (OpenSpec.ofChange linkNoneSpec)) linkNoneCard

/-- THE TIED CARD OF 'armariumlaw13.LinkReads'. -/
def linkReadsCard : Claim7 := { stood := { row := linkReadsRow, standIns := [], harness := (true, "903c1bef413ad3524c8807e68f16538d761045b1eb3b9220f4b98bcec6d94d70"), looks := true }, kinds := [], alts := [], laidByText := true, laidKinds := [.data, .data, .data, .sentinel, .sentinel], laidTests := true, laidLooks := .later }
def LinkReadsCardSaid : Prop := Claim7.holds Tryz.pinned (.plain (OpenSpec.ofChange linkReadsSpec)) linkReadsCard

/-- THE SECOND FORM's CARD OF 'armariumlaw13.LinkTwo'. -/
def linkTwoUptoCard : Claim7 := { stood := { row := linkTwoUptoRow, standIns := [], harness := (true, "903c1bef413ad3524c8807e68f16538d761045b1eb3b9220f4b98bcec6d94d70"), looks := true }, kinds := [], alts := [], laidByText := true, laidKinds := [.data, .data, .data, .sentinel, .sentinel], laidTests := true, laidLooks := .later }
def LinkTwoUptoCardSaid : Prop := Claim7.holds Tryz.pinned (.plain (OpenSpec.upto linkTwoSpec)) linkTwoUptoCard

/-- THE SECOND FORM's CARD OF 'armariumlaw13.LinkLearns'. -/
def linkLearnsUptoCard : Claim7 := { stood := { row := linkLearnsUptoRow, standIns := [], harness := (true, "903c1bef413ad3524c8807e68f16538d761045b1eb3b9220f4b98bcec6d94d70"), looks := true }, kinds := [], alts := [], laidByText := true, laidKinds := [.data, .data, .data, .sentinel, .sentinel], laidTests := true, laidLooks := .later }
def LinkLearnsUptoCardSaid : Prop := Claim7.holds Tryz.pinned (.plain (OpenSpec.upto linkLearnsSpec)) linkLearnsUptoCard

/-- THE SECOND FORM's CARD OF 'armariumlaw13.LinkOld'. -/
def linkOldUptoCard : Claim7 := { stood := { row := linkOldUptoRow, standIns := [], harness := (true, "903c1bef413ad3524c8807e68f16538d761045b1eb3b9220f4b98bcec6d94d70"), looks := true }, kinds := [], alts := [], laidByText := true, laidKinds := [.data, .data, .data, .sentinel, .sentinel], laidTests := true, laidLooks := .later }
def LinkOldUptoCardSaid : Prop := Claim7.holds Tryz.pinned (.plain (OpenSpec.upto linkOldSpec)) linkOldUptoCard

/-- THE SECOND FORM's CARD OF 'armariumlaw13.LinkLease'. -/
def linkLeaseUptoCard : Claim7 := { stood := { row := linkLeaseUptoRow, standIns := [], harness := (true, "903c1bef413ad3524c8807e68f16538d761045b1eb3b9220f4b98bcec6d94d70"), looks := true }, kinds := [], alts := [], laidByText := true, laidKinds := [.data, .data, .data, .sentinel, .sentinel], laidTests := true, laidLooks := .later }
def LinkLeaseUptoCardSaid : Prop := Claim7.holds Tryz.pinned (.plain (OpenSpec.upto linkLeaseSpec)) linkLeaseUptoCard

/-- THE SECOND FORM's CARD OF 'armariumlaw13.LinkTail'. -/
def linkTailUptoCard : Claim7 := { stood := { row := linkTailUptoRow, standIns := [], harness := (true, "903c1bef413ad3524c8807e68f16538d761045b1eb3b9220f4b98bcec6d94d70"), looks := true }, kinds := [], alts := [], laidByText := true, laidKinds := [.data, .data, .data, .sentinel, .sentinel], laidTests := true, laidLooks := .later }
def LinkTailUptoCardSaid : Prop := Claim7.holds Tryz.pinned (.plain (OpenSpec.upto linkTailSpec)) linkTailUptoCard

/-- THE SECOND FORM's CARD OF 'armariumlaw13.LinkPass'. -/
def linkPassUptoCard : Claim7 := { stood := { row := linkPassUptoRow, standIns := [], harness := (true, "903c1bef413ad3524c8807e68f16538d761045b1eb3b9220f4b98bcec6d94d70"), looks := true }, kinds := [], alts := [], laidByText := true, laidKinds := [.data, .data, .data, .sentinel, .sentinel], laidTests := true, laidLooks := .later }
def LinkPassUptoCardSaid : Prop := Claim7.holds Tryz.pinned (.plain (OpenSpec.upto linkPassSpec)) linkPassUptoCard

/-- THE SECOND FORM's CARD OF 'armariumlaw13.LinkAcks'. -/
def linkAcksUptoCard : Claim7 := { stood := { row := linkAcksUptoRow, standIns := [], harness := (true, "903c1bef413ad3524c8807e68f16538d761045b1eb3b9220f4b98bcec6d94d70"), looks := true }, kinds := [], alts := [], laidByText := true, laidKinds := [.data, .data, .data, .sentinel, .sentinel], laidTests := true, laidLooks := .later }
def LinkAcksUptoCardSaid : Prop := Claim7.holds Tryz.pinned (.plain (OpenSpec.upto linkAcksSpec)) linkAcksUptoCard

/-- THE SECOND FORM's CARD OF 'armariumlaw13.LinkNeeds'. -/
def linkNeedsUptoCard : Claim7 := { stood := { row := linkNeedsUptoRow, standIns := [], harness := (true, "903c1bef413ad3524c8807e68f16538d761045b1eb3b9220f4b98bcec6d94d70"), looks := true }, kinds := [], alts := [], laidByText := true, laidKinds := [.data, .data, .data, .sentinel, .sentinel], laidTests := true, laidLooks := .later }
def LinkNeedsUptoCardSaid : Prop := Claim7.holds Tryz.pinned (.plain (OpenSpec.upto linkNeedsSpec)) linkNeedsUptoCard

/-- THE SECOND FORM's CARD OF 'armariumlaw13.LinkWrites'. -/
def linkWritesUptoCard : Claim7 := { stood := { row := linkWritesUptoRow, standIns := [], harness := (true, "903c1bef413ad3524c8807e68f16538d761045b1eb3b9220f4b98bcec6d94d70"), looks := true }, kinds := [], alts := [], laidByText := true, laidKinds := [.data, .data, .data, .sentinel, .sentinel], laidTests := true, laidLooks := .later }
def LinkWritesUptoCardSaid : Prop := Claim7.holds Tryz.pinned (.plain (OpenSpec.upto linkWritesSpec)) linkWritesUptoCard

/-- THE SECOND FORM's CARD OF 'armariumlaw13.LinkForeign'. -/
def linkForeignUptoCard : Claim7 := { stood := { row := linkForeignUptoRow, standIns := [], harness := (true, "903c1bef413ad3524c8807e68f16538d761045b1eb3b9220f4b98bcec6d94d70"), looks := true }, kinds := [], alts := [], laidByText := true, laidKinds := [.data, .data, .data, .sentinel, .sentinel], laidTests := true, laidLooks := .later }
def LinkForeignUptoCardSaid : Prop := Claim7.holds Tryz.pinned (.plain (OpenSpec.upto linkForeignSpec)) linkForeignUptoCard

/-- THE SECOND FORM's CARD OF 'armariumlaw13.LinkNone'. -/
def linkNoneUptoCard : Claim7 := { stood := { row := linkNoneUptoRow, standIns := [], harness := (true, "903c1bef413ad3524c8807e68f16538d761045b1eb3b9220f4b98bcec6d94d70"), looks := true }, kinds := [], alts := [], laidByText := true, laidKinds := [.data, .data, .data, .sentinel, .sentinel], laidTests := true, laidLooks := .later }
def LinkNoneUptoCardSaid : Prop := Claim7.holds Tryz.pinned (.plain (OpenSpec.upto linkNoneSpec)) linkNoneUptoCard

/-- THE SECOND FORM's CARD OF 'armariumlaw13.LinkReads'. -/
def linkReadsUptoCard : Claim7 := { stood := { row := linkReadsUptoRow, standIns := [], harness := (true, "903c1bef413ad3524c8807e68f16538d761045b1eb3b9220f4b98bcec6d94d70"), looks := true }, kinds := [], alts := [], laidByText := true, laidKinds := [.data, .data, .data, .sentinel, .sentinel], laidTests := true, laidLooks := .later }
def LinkReadsUptoCardSaid : Prop := Claim7.holds Tryz.pinned (.plain (OpenSpec.upto linkReadsSpec)) linkReadsUptoCard
end Rows
end Go.Proofs.YtefdfaeieekioaaGreatDoor
