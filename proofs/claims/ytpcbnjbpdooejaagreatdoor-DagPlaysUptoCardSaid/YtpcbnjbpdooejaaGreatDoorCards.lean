/-
  DERIVED. GIVEN WITH THE SEED: THE CARDS: each row of YtpcbnjbpdooejaaGreatDoorRows.lean that lists a variable, with what it lists TIED to the program's text (the seventh form; the later family's looks); each row that meets fmt, with fmt's text TOLD by the authors' own Lean function (tested against real Go, not proved from fmt's source: count such statements apart). THE CARD IS WHAT COUNTS. Prove the row's statement (the work); the ties are given (YtpcbnjbpdooejaaGreatDoorTie.lean); close each card by the builder's one call (the guide's Derived/Test/ToyasCard.lean, 'card_holds'). Laid BY PROGRAM, IN A SANDBOX (cutbox-door.mjs). By AI agents, Wed Nov 11 2026. No macro, syntax, notation, axiom, sorry.
-/
import Derived.Test.YtpcbnjbpdooejaaGreatDoorRows
import GoSem.ClaimSeven
namespace Go.Proofs.YtpcbnjbpdooejaaGreatDoor
namespace Rows

/-- THE TIED CARD OF 'stemmalaw10.DagJoins'. -/
def dagJoinsCard : Claim7 := { stood := { row := dagJoinsRow, standIns := [], harness := (true, "b9ee85ba358960dac13bd99e98f1c40c10d1508674e49e9a78d39b90f09bd6fb"), looks := true }, kinds := [], alts := [], laidByText := true, laidKinds := [.data, .data], laidTests := true, laidLooks := .later }
def DagJoinsCardSaid : Prop := Claim7.holds Tryz.pinned (.plain (OpenSpec.ofChange dagJoinsSpec)) dagJoinsCard

/-- THE TIED CARD OF 'stemmalaw10.DagNexts'. -/
def dagNextsCard : Claim7 := { stood := { row := dagNextsRow, standIns := [], harness := (true, "b9ee85ba358960dac13bd99e98f1c40c10d1508674e49e9a78d39b90f09bd6fb"), looks := true }, kinds := [], alts := [], laidByText := true, laidKinds := [.data, .data], laidTests := true, laidLooks := .later }
def DagNextsCardSaid : Prop := Claim7.holds Tryz.pinned (.plain (OpenSpec.ofChange dagNextsSpec)) dagNextsCard

/-- THE TIED CARD OF 'stemmalaw10.DagPlays'. -/
def dagPlaysCard : Claim7 := { stood := { row := dagPlaysRow, standIns := [], harness := (true, "b9ee85ba358960dac13bd99e98f1c40c10d1508674e49e9a78d39b90f09bd6fb"), looks := true }, kinds := [], alts := [], laidByText := true, laidKinds := [.data, .data], laidTests := true, laidLooks := .later }
def DagPlaysCardSaid : Prop := Claim7.holds Tryz.pinned (.plain (OpenSpec.ofChange dagPlaysSpec)) dagPlaysCard

/-- THE TIED CARD OF 'stemmalaw10.DagPasts'. -/
def dagPastsCard : Claim7 := { stood := { row := dagPastsRow, standIns := [], harness := (true, "b9ee85ba358960dac13bd99e98f1c40c10d1508674e49e9a78d39b90f09bd6fb"), looks := true }, kinds := [], alts := [], laidByText := true, laidKinds := [.data, .data], laidTests := true, laidLooks := .later }
def DagPastsCardSaid : Prop := Claim7.holds Tryz.pinned (.plain (OpenSpec.ofChange dagPastsSpec)) dagPastsCard

/-- THE TIED CARD OF 'stemmalaw10.DagAny'. -/
def dagAnyCard : Claim7 := { stood := { row := dagAnyRow, standIns := [], harness := (true, "b9ee85ba358960dac13bd99e98f1c40c10d1508674e49e9a78d39b90f09bd6fb"), looks := true }, kinds := [], alts := [], laidByText := true, laidKinds := [.data, .data], laidTests := true, laidLooks := .later }
def DagAnyCardSaid : Prop := Claim7.holds Tryz.pinned (.plain (OpenSpec.ofChange dagAnySpec)) dagAnyCard

/-- THE TIED CARD OF 'stemmalaw10.DagForks'. -/
def dagForksCard : Claim7 := { stood := { row := dagForksRow, standIns := [], harness := (true, "b9ee85ba358960dac13bd99e98f1c40c10d1508674e49e9a78d39b90f09bd6fb"), looks := true }, kinds := [], alts := [], laidByText := true, laidKinds := [.data, .data], laidTests := true, laidLooks := .later }
def DagForksCardSaid : Prop := Claim7.holds Tryz.pinned (.plain (OpenSpec.ofChange dagForksSpec)) dagForksCard

/-- THE TIED CARD OF 'stemmalaw10.DagClosed'. -/
def dagClosedCard : Claim7 := { stood := { row := dagClosedRow, standIns := [], harness := (true, "b9ee85ba358960dac13bd99e98f1c40c10d1508674e49e9a78d39b90f09bd6fb"), looks := true }, kinds := [], alts := [], laidByText := true, laidKinds := [.data, .data], laidTests := true, laidLooks := .later }
def DagClosedCardSaid : Prop := Claim7.holds Tryz.pinned (.plain (OpenSpec.ofChange dagClosedSpec)) dagClosedCard

/-- THE TIED CARD OF 'stemmalaw10.DagOrders'. -/
def dagOrdersCard : Claim7 := { stood := { row := dagOrdersRow, standIns := [], harness := (true, "b9ee85ba358960dac13bd99e98f1c40c10d1508674e49e9a78d39b90f09bd6fb"), looks := true }, kinds := [], alts := [], laidByText := true, laidKinds := [.data, .data], laidTests := true, laidLooks := .later }
def DagOrdersCardSaid : Prop := Claim7.holds Tryz.pinned (.plain (OpenSpec.ofChange dagOrdersSpec)) dagOrdersCard

/-- THE TIED CARD OF 'stemmalaw22.PeerNobody'. -/
def peerNobodyCard : Claim7 := { stood := { row := peerNobodyRow, standIns := [], harness := (true, "b9ee85ba358960dac13bd99e98f1c40c10d1508674e49e9a78d39b90f09bd6fb"), looks := true }, kinds := [], alts := [], laidByText := true, laidKinds := [.data, .data], laidTests := true, laidLooks := .later }
def PeerNobodyCardSaid : Prop := Claim7.holds Tryz.pinned (.plain (OpenSpec.ofChange peerNobodySpec)) peerNobodyCard

/-- THE TIED CARD OF 'stemmalaw22.PeerEven'. -/
def peerEvenCard : Claim7 := { stood := { row := peerEvenRow, standIns := [], harness := (true, "b9ee85ba358960dac13bd99e98f1c40c10d1508674e49e9a78d39b90f09bd6fb"), looks := true }, kinds := [], alts := [], laidByText := true, laidKinds := [.data, .data], laidTests := true, laidLooks := .later }
def PeerEvenCardSaid : Prop := Claim7.holds Tryz.pinned (.plain (OpenSpec.ofChange peerEvenSpec)) peerEvenCard

/-- THE TIED CARD OF 'stemmalaw22.PeerSyncs'. -/
def peerSyncsCard : Claim7 := { stood := { row := peerSyncsRow, standIns := [], harness := (true, "b9ee85ba358960dac13bd99e98f1c40c10d1508674e49e9a78d39b90f09bd6fb"), looks := true }, kinds := [], alts := [], laidByText := true, laidKinds := [.data, .data], laidTests := true, laidLooks := .later }
def PeerSyncsCardSaid : Prop := Claim7.holds Tryz.pinned (.plain (OpenSpec.ofChange peerSyncsSpec)) peerSyncsCard

/-- THE TIED CARD OF 'stemmalaw22.PeerPlays'. -/
def peerPlaysCard : Claim7 := { stood := { row := peerPlaysRow, standIns := [], harness := (true, "b9ee85ba358960dac13bd99e98f1c40c10d1508674e49e9a78d39b90f09bd6fb"), looks := true }, kinds := [], alts := [], laidByText := true, laidKinds := [.data, .data], laidTests := true, laidLooks := .later }
def PeerPlaysCardSaid : Prop := Claim7.holds Tryz.pinned (.plain (OpenSpec.ofChange peerPlaysSpec)) peerPlaysCard

/-- THE TIED CARD OF 'stemmalaw22.PeerGrows'. -/
def peerGrowsCard : Claim7 := { stood := { row := peerGrowsRow, standIns := [], harness := (true, "b9ee85ba358960dac13bd99e98f1c40c10d1508674e49e9a78d39b90f09bd6fb"), looks := true }, kinds := [], alts := [], laidByText := true, laidKinds := [.data, .data], laidTests := true, laidLooks := .later }
def PeerGrowsCardSaid : Prop := Claim7.holds Tryz.pinned (.plain (OpenSpec.ofChange peerGrowsSpec)) peerGrowsCard

/-- THE SECOND FORM's CARD OF 'stemmalaw10.DagJoins'. -/
def dagJoinsUptoCard : Claim7 := { stood := { row := dagJoinsUptoRow, standIns := [], harness := (true, "b9ee85ba358960dac13bd99e98f1c40c10d1508674e49e9a78d39b90f09bd6fb"), looks := true }, kinds := [], alts := [], laidByText := true, laidKinds := [.data, .data], laidTests := true, laidLooks := .later }
def DagJoinsUptoCardSaid : Prop := Claim7.holds Tryz.pinned (.plain (OpenSpec.upto dagJoinsSpec)) dagJoinsUptoCard

/-- THE SECOND FORM's CARD OF 'stemmalaw10.DagNexts'. -/
def dagNextsUptoCard : Claim7 := { stood := { row := dagNextsUptoRow, standIns := [], harness := (true, "b9ee85ba358960dac13bd99e98f1c40c10d1508674e49e9a78d39b90f09bd6fb"), looks := true }, kinds := [], alts := [], laidByText := true, laidKinds := [.data, .data], laidTests := true, laidLooks := .later }
def DagNextsUptoCardSaid : Prop := Claim7.holds Tryz.pinned (.plain (OpenSpec.upto dagNextsSpec)) dagNextsUptoCard

/-- THE SECOND FORM's CARD OF 'stemmalaw10.DagPlays'. -/
def dagPlaysUptoCard : Claim7 := { stood := { row := dagPlaysUptoRow, standIns := [], harness := (true, "b9ee85ba358960dac13bd99e98f1c40c10d1508674e49e9a78d39b90f09bd6fb"), looks := true }, kinds := [], alts := [], laidByText := true, laidKinds := [.data, .data], laidTests := true, laidLooks := .later }
def DagPlaysUptoCardSaid : Prop := Claim7.holds Tryz.pinned (.plain (OpenSpec.upto dagPlaysSpec)) dagPlaysUptoCard

/-- THE SECOND FORM's CARD OF 'stemmalaw10.DagPasts'. -/
def dagPastsUptoCard : Claim7 := { stood := { row := dagPastsUptoRow, standIns := [], harness := (true, "b9ee85ba358960dac13bd99e98f1c40c10d1508674e49e9a78d39b90f09bd6fb"), looks := true }, kinds := [], alts := [], laidByText := true, laidKinds := [.data, .data], laidTests := true, laidLooks := .later }
def DagPastsUptoCardSaid : Prop := Claim7.holds Tryz.pinned (.plain (OpenSpec.upto dagPastsSpec)) dagPastsUptoCard

/-- THE SECOND FORM's CARD OF 'stemmalaw10.DagAny'. -/
def dagAnyUptoCard : Claim7 := { stood := { row := dagAnyUptoRow, standIns := [], harness := (true, "b9ee85ba358960dac13bd99e98f1c40c10d1508674e49e9a78d39b90f09bd6fb"), looks := true }, kinds := [], alts := [], laidByText := true, laidKinds := [.data, .data], laidTests := true, laidLooks := .later }
def DagAnyUptoCardSaid : Prop := Claim7.holds Tryz.pinned (.plain (OpenSpec.upto dagAnySpec)) dagAnyUptoCard

/-- THE SECOND FORM's CARD OF 'stemmalaw10.DagForks'. -/
def dagForksUptoCard : Claim7 := { stood := { row := dagForksUptoRow, standIns := [], harness := (true, "b9ee85ba358960dac13bd99e98f1c40c10d1508674e49e9a78d39b90f09bd6fb"), looks := true }, kinds := [], alts := [], laidByText := true, laidKinds := [.data, .data], laidTests := true, laidLooks := .later }
def DagForksUptoCardSaid : Prop := Claim7.holds Tryz.pinned (.plain (OpenSpec.upto dagForksSpec)) dagForksUptoCard

/-- THE SECOND FORM's CARD OF 'stemmalaw10.DagClosed'. -/
def dagClosedUptoCard : Claim7 := { stood := { row := dagClosedUptoRow, standIns := [], harness := (true, "b9ee85ba358960dac13bd99e98f1c40c10d1508674e49e9a78d39b90f09bd6fb"), looks := true }, kinds := [], alts := [], laidByText := true, laidKinds := [.data, .data], laidTests := true, laidLooks := .later }
def DagClosedUptoCardSaid : Prop := Claim7.holds Tryz.pinned (.plain (OpenSpec.upto dagClosedSpec)) dagClosedUptoCard

/-- THE SECOND FORM's CARD OF 'stemmalaw10.DagOrders'. -/
def dagOrdersUptoCard : Claim7 := { stood := { row := dagOrdersUptoRow, standIns := [], harness := (true, "b9ee85ba358960dac13bd99e98f1c40c10d1508674e49e9a78d39b90f09bd6fb"), looks := true }, kinds := [], alts := [], laidByText := true, laidKinds := [.data, .data], laidTests := true, laidLooks := .later }
def DagOrdersUptoCardSaid : Prop := Claim7.holds Tryz.pinned (.plain (OpenSpec.upto dagOrdersSpec)) dagOrdersUptoCard

/-- THE SECOND FORM's CARD OF 'stemmalaw22.PeerNobody'. -/
def peerNobodyUptoCard : Claim7 := { stood := { row := peerNobodyUptoRow, standIns := [], harness := (true, "b9ee85ba358960dac13bd99e98f1c40c10d1508674e49e9a78d39b90f09bd6fb"), looks := true }, kinds := [], alts := [], laidByText := true, laidKinds := [.data, .data], laidTests := true, laidLooks := .later }
def PeerNobodyUptoCardSaid : Prop := Claim7.holds Tryz.pinned (.plain (OpenSpec.upto peerNobodySpec)) peerNobodyUptoCard

/-- THE SECOND FORM's CARD OF 'stemmalaw22.PeerEven'. -/
def peerEvenUptoCard : Claim7 := { stood := { row := peerEvenUptoRow, standIns := [], harness := (true, "b9ee85ba358960dac13bd99e98f1c40c10d1508674e49e9a78d39b90f09bd6fb"), looks := true }, kinds := [], alts := [], laidByText := true, laidKinds := [.data, .data], laidTests := true, laidLooks := .later }
def PeerEvenUptoCardSaid : Prop := Claim7.holds Tryz.pinned (.plain (OpenSpec.upto peerEvenSpec)) peerEvenUptoCard

/-- THE SECOND FORM's CARD OF 'stemmalaw22.PeerSyncs'. -/
def peerSyncsUptoCard : Claim7 := { stood := { row := peerSyncsUptoRow, standIns := [], harness := (true, "b9ee85ba358960dac13bd99e98f1c40c10d1508674e49e9a78d39b90f09bd6fb"), looks := true }, kinds := [], alts := [], laidByText := true, laidKinds := [.data, .data], laidTests := true, laidLooks := .later }
def PeerSyncsUptoCardSaid : Prop := Claim7.holds Tryz.pinned (.plain (OpenSpec.upto peerSyncsSpec)) peerSyncsUptoCard

/-- THE SECOND FORM's CARD OF 'stemmalaw22.PeerPlays'. -/
def peerPlaysUptoCard : Claim7 := { stood := { row := peerPlaysUptoRow, standIns := [], harness := (true, "b9ee85ba358960dac13bd99e98f1c40c10d1508674e49e9a78d39b90f09bd6fb"), looks := true }, kinds := [], alts := [], laidByText := true, laidKinds := [.data, .data], laidTests := true, laidLooks := .later }
def PeerPlaysUptoCardSaid : Prop := Claim7.holds Tryz.pinned (.plain (OpenSpec.upto peerPlaysSpec)) peerPlaysUptoCard

/-- THE SECOND FORM's CARD OF 'stemmalaw22.PeerGrows'. -/
def peerGrowsUptoCard : Claim7 := { stood := { row := peerGrowsUptoRow, standIns := [], harness := (true, "b9ee85ba358960dac13bd99e98f1c40c10d1508674e49e9a78d39b90f09bd6fb"), looks := true }, kinds := [], alts := [], laidByText := true, laidKinds := [.data, .data], laidTests := true, laidLooks := .later }
def PeerGrowsUptoCardSaid : Prop := Claim7.holds Tryz.pinned (.plain (OpenSpec.upto peerGrowsSpec)) peerGrowsUptoCard
end Rows
end Go.Proofs.YtpcbnjbpdooejaaGreatDoor
