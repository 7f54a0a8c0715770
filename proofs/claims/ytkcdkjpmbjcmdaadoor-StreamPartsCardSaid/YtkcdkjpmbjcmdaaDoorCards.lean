/-
  DERIVED. GIVEN WITH THE SEED: THE CARDS: each row of YtkcdkjpmbjcmdaaDoorRows.lean that lists a variable, with what it lists TIED to the program's text (the seventh form; the later family's looks); each row that meets fmt, with fmt's text TOLD by the authors' own Lean function (tested against real Go, not proved from fmt's source: count such statements apart). THE CARD IS WHAT COUNTS. Prove the row's statement (the work); the ties are given (YtkcdkjpmbjcmdaaDoorTie.lean); close each card by the builder's one call (the guide's Derived/Test/ToyasCard.lean, 'card_holds'). Laid BY PROGRAM, IN A SANDBOX (cutbox-door.mjs). By AI agents, Wed Nov 11 2026. No macro, syntax, notation, axiom, sorry.
-/
import Derived.Test.YtkcdkjpmbjcmdaaDoorRows
import GoSem.ClaimSeven
namespace Go.Proofs.YtkcdkjpmbjcmdaaDoor
namespace Rows

/-- THE TIED CARD OF 'kiosklaw18.PackBytes'. -/
def packBytesCard : Claim7 := { stood := { row := packBytesRow, standIns := [], harness := (true, "6eb4556230c54d9426ff756d75c83868ab2ed26fface84207e726f9675facaca"), looks := false }, kinds := [], alts := [], laidByText := true, laidKinds := [.data, .pinned], laidTests := true, laidLooks := .later }
def PackBytesCardSaid : Prop := Claim7.holds Tryd.pinned (.plain (OpenSpec.ofChange packBytesSpec)) packBytesCard

/-- THE TIED CARD OF 'kiosklaw18.PackParses'. -/
def packParsesCard : Claim7 := { stood := { row := packParsesRow, standIns := [], harness := (true, "6eb4556230c54d9426ff756d75c83868ab2ed26fface84207e726f9675facaca"), looks := false }, kinds := [], alts := [], laidByText := true, laidKinds := [.data, .pinned], laidTests := true, laidLooks := .later }
def PackParsesCardSaid : Prop := Claim7.holds Tryd.pinned (.plain (OpenSpec.ofChange packParsesSpec)) packParsesCard

/-- THE TIED CARD OF 'kiosklaw18.PackBack'. -/
def packBackCard : Claim7 := { stood := { row := packBackRow, standIns := [], harness := (true, "6eb4556230c54d9426ff756d75c83868ab2ed26fface84207e726f9675facaca"), looks := false }, kinds := [], alts := [], laidByText := true, laidKinds := [.data, .pinned], laidTests := true, laidLooks := .later }
def PackBackCardSaid : Prop := Claim7.holds Tryd.pinned (.plain (OpenSpec.ofChange packBackSpec)) packBackCard

/-- THE TIED CARD OF 'kiosklaw18.PackConnects'. -/
def packConnectsCard : Claim7 := { stood := { row := packConnectsRow, standIns := [], harness := (true, "6eb4556230c54d9426ff756d75c83868ab2ed26fface84207e726f9675facaca"), looks := false }, kinds := [], alts := [], laidByText := true, laidKinds := [.data, .pinned], laidTests := true, laidLooks := .later }
def PackConnectsCardSaid : Prop := Claim7.holds Tryd.pinned (.plain (OpenSpec.ofChange packConnectsSpec)) packConnectsCard

/-- THE TIED CARD OF 'kiosklaw18.PackConnacks'. -/
def packConnacksCard : Claim7 := { stood := { row := packConnacksRow, standIns := [], harness := (true, "6eb4556230c54d9426ff756d75c83868ab2ed26fface84207e726f9675facaca"), looks := false }, kinds := [], alts := [], laidByText := true, laidKinds := [.data, .pinned], laidTests := true, laidLooks := .later }
def PackConnacksCardSaid : Prop := Claim7.holds Tryd.pinned (.plain (OpenSpec.ofChange packConnacksSpec)) packConnacksCard

/-- THE TIED CARD OF 'kiosklaw18.PackPublishes'. -/
def packPublishesCard : Claim7 := { stood := { row := packPublishesRow, standIns := [], harness := (true, "6eb4556230c54d9426ff756d75c83868ab2ed26fface84207e726f9675facaca"), looks := false }, kinds := [], alts := [], laidByText := true, laidKinds := [.data, .pinned], laidTests := true, laidLooks := .later }
def PackPublishesCardSaid : Prop := Claim7.holds Tryd.pinned (.plain (OpenSpec.ofChange packPublishesSpec)) packPublishesCard

/-- THE TIED CARD OF 'kiosklaw18.PackPubacks'. -/
def packPubacksCard : Claim7 := { stood := { row := packPubacksRow, standIns := [], harness := (true, "6eb4556230c54d9426ff756d75c83868ab2ed26fface84207e726f9675facaca"), looks := false }, kinds := [], alts := [], laidByText := true, laidKinds := [.data, .pinned], laidTests := true, laidLooks := .later }
def PackPubacksCardSaid : Prop := Claim7.holds Tryd.pinned (.plain (OpenSpec.ofChange packPubacksSpec)) packPubacksCard

/-- THE TIED CARD OF 'kiosklaw18.PackPubrecs'. -/
def packPubrecsCard : Claim7 := { stood := { row := packPubrecsRow, standIns := [], harness := (true, "6eb4556230c54d9426ff756d75c83868ab2ed26fface84207e726f9675facaca"), looks := false }, kinds := [], alts := [], laidByText := true, laidKinds := [.data, .pinned], laidTests := true, laidLooks := .later }
def PackPubrecsCardSaid : Prop := Claim7.holds Tryd.pinned (.plain (OpenSpec.ofChange packPubrecsSpec)) packPubrecsCard

/-- THE TIED CARD OF 'kiosklaw18.PackPubrels'. -/
def packPubrelsCard : Claim7 := { stood := { row := packPubrelsRow, standIns := [], harness := (true, "6eb4556230c54d9426ff756d75c83868ab2ed26fface84207e726f9675facaca"), looks := false }, kinds := [], alts := [], laidByText := true, laidKinds := [.data, .pinned], laidTests := true, laidLooks := .later }
def PackPubrelsCardSaid : Prop := Claim7.holds Tryd.pinned (.plain (OpenSpec.ofChange packPubrelsSpec)) packPubrelsCard

/-- THE TIED CARD OF 'kiosklaw18.PackPubcomps'. -/
def packPubcompsCard : Claim7 := { stood := { row := packPubcompsRow, standIns := [], harness := (true, "6eb4556230c54d9426ff756d75c83868ab2ed26fface84207e726f9675facaca"), looks := false }, kinds := [], alts := [], laidByText := true, laidKinds := [.data, .pinned], laidTests := true, laidLooks := .later }
def PackPubcompsCardSaid : Prop := Claim7.holds Tryd.pinned (.plain (OpenSpec.ofChange packPubcompsSpec)) packPubcompsCard

/-- THE TIED CARD OF 'kiosklaw18.PackSubscribes'. -/
def packSubscribesCard : Claim7 := { stood := { row := packSubscribesRow, standIns := [], harness := (true, "6eb4556230c54d9426ff756d75c83868ab2ed26fface84207e726f9675facaca"), looks := false }, kinds := [], alts := [], laidByText := true, laidKinds := [.data, .pinned], laidTests := true, laidLooks := .later }
def PackSubscribesCardSaid : Prop := Claim7.holds Tryd.pinned (.plain (OpenSpec.ofChange packSubscribesSpec)) packSubscribesCard

/-- THE TIED CARD OF 'kiosklaw18.PackSubacks'. -/
def packSubacksCard : Claim7 := { stood := { row := packSubacksRow, standIns := [], harness := (true, "6eb4556230c54d9426ff756d75c83868ab2ed26fface84207e726f9675facaca"), looks := false }, kinds := [], alts := [], laidByText := true, laidKinds := [.data, .pinned], laidTests := true, laidLooks := .later }
def PackSubacksCardSaid : Prop := Claim7.holds Tryd.pinned (.plain (OpenSpec.ofChange packSubacksSpec)) packSubacksCard

/-- THE TIED CARD OF 'kiosklaw18.PackUnsubscribes'. -/
def packUnsubscribesCard : Claim7 := { stood := { row := packUnsubscribesRow, standIns := [], harness := (true, "6eb4556230c54d9426ff756d75c83868ab2ed26fface84207e726f9675facaca"), looks := false }, kinds := [], alts := [], laidByText := true, laidKinds := [.data, .pinned], laidTests := true, laidLooks := .later }
def PackUnsubscribesCardSaid : Prop := Claim7.holds Tryd.pinned (.plain (OpenSpec.ofChange packUnsubscribesSpec)) packUnsubscribesCard

/-- THE TIED CARD OF 'kiosklaw18.PackUnsubacks'. -/
def packUnsubacksCard : Claim7 := { stood := { row := packUnsubacksRow, standIns := [], harness := (true, "6eb4556230c54d9426ff756d75c83868ab2ed26fface84207e726f9675facaca"), looks := false }, kinds := [], alts := [], laidByText := true, laidKinds := [.data, .pinned], laidTests := true, laidLooks := .later }
def PackUnsubacksCardSaid : Prop := Claim7.holds Tryd.pinned (.plain (OpenSpec.ofChange packUnsubacksSpec)) packUnsubacksCard

/-- THE TIED CARD OF 'kiosklaw18.PackPings'. -/
def packPingsCard : Claim7 := { stood := { row := packPingsRow, standIns := [], harness := (true, "6eb4556230c54d9426ff756d75c83868ab2ed26fface84207e726f9675facaca"), looks := false }, kinds := [], alts := [], laidByText := true, laidKinds := [.data, .pinned], laidTests := true, laidLooks := .later }
def PackPingsCardSaid : Prop := Claim7.holds Tryd.pinned (.plain (OpenSpec.ofChange packPingsSpec)) packPingsCard

/-- THE TIED CARD OF 'kiosklaw18.PackPongs'. -/
def packPongsCard : Claim7 := { stood := { row := packPongsRow, standIns := [], harness := (true, "6eb4556230c54d9426ff756d75c83868ab2ed26fface84207e726f9675facaca"), looks := false }, kinds := [], alts := [], laidByText := true, laidKinds := [.data, .pinned], laidTests := true, laidLooks := .later }
def PackPongsCardSaid : Prop := Claim7.holds Tryd.pinned (.plain (OpenSpec.ofChange packPongsSpec)) packPongsCard

/-- THE TIED CARD OF 'kiosklaw18.PackByes'. -/
def packByesCard : Claim7 := { stood := { row := packByesRow, standIns := [], harness := (true, "6eb4556230c54d9426ff756d75c83868ab2ed26fface84207e726f9675facaca"), looks := false }, kinds := [], alts := [], laidByText := true, laidKinds := [.data, .pinned], laidTests := true, laidLooks := .later }
def PackByesCardSaid : Prop := Claim7.holds Tryd.pinned (.plain (OpenSpec.ofChange packByesSpec)) packByesCard

/-- THE TIED CARD OF 'kiosklaw19.StreamFeeds'. -/
def streamFeedsCard : Claim7 := { stood := { row := streamFeedsRow, standIns := [], harness := (true, "6eb4556230c54d9426ff756d75c83868ab2ed26fface84207e726f9675facaca"), looks := false }, kinds := [], alts := [], laidByText := true, laidKinds := [.data, .pinned], laidTests := true, laidLooks := .later }
def StreamFeedsCardSaid : Prop := Claim7.holds Tryd.pinned (.plain (OpenSpec.ofChange streamFeedsSpec)) streamFeedsCard

/-- THE TIED CARD OF 'kiosklaw19.StreamParts'. -/
def streamPartsCard : Claim7 := { stood := { row := streamPartsRow, standIns := [], harness := (true, "6eb4556230c54d9426ff756d75c83868ab2ed26fface84207e726f9675facaca"), looks := false }, kinds := [], alts := [], laidByText := true, laidKinds := [.data, .pinned], laidTests := true, laidLooks := .later }
def StreamPartsCardSaid : Prop := Claim7.holds Tryd.pinned (.plain (OpenSpec.ofChange streamPartsSpec)) streamPartsCard

/-- THE SECOND FORM's CARD OF 'kiosklaw18.PackBytes'. -/
def packBytesUptoCard : Claim7 := { stood := { row := packBytesUptoRow, standIns := [], harness := (true, "6eb4556230c54d9426ff756d75c83868ab2ed26fface84207e726f9675facaca"), looks := false }, kinds := [], alts := [], laidByText := true, laidKinds := [.data, .pinned], laidTests := true, laidLooks := .later }
def PackBytesUptoCardSaid : Prop := Claim7.holds Tryd.pinned (.plain (OpenSpec.upto packBytesSpec)) packBytesUptoCard

/-- THE SECOND FORM's CARD OF 'kiosklaw18.PackParses'. -/
def packParsesUptoCard : Claim7 := { stood := { row := packParsesUptoRow, standIns := [], harness := (true, "6eb4556230c54d9426ff756d75c83868ab2ed26fface84207e726f9675facaca"), looks := false }, kinds := [], alts := [], laidByText := true, laidKinds := [.data, .pinned], laidTests := true, laidLooks := .later }
def PackParsesUptoCardSaid : Prop := Claim7.holds Tryd.pinned (.plain (OpenSpec.upto packParsesSpec)) packParsesUptoCard

/-- THE SECOND FORM's CARD OF 'kiosklaw18.PackBack'. -/
def packBackUptoCard : Claim7 := { stood := { row := packBackUptoRow, standIns := [], harness := (true, "6eb4556230c54d9426ff756d75c83868ab2ed26fface84207e726f9675facaca"), looks := false }, kinds := [], alts := [], laidByText := true, laidKinds := [.data, .pinned], laidTests := true, laidLooks := .later }
def PackBackUptoCardSaid : Prop := Claim7.holds Tryd.pinned (.plain (OpenSpec.upto packBackSpec)) packBackUptoCard

/-- THE SECOND FORM's CARD OF 'kiosklaw18.PackConnects'. -/
def packConnectsUptoCard : Claim7 := { stood := { row := packConnectsUptoRow, standIns := [], harness := (true, "6eb4556230c54d9426ff756d75c83868ab2ed26fface84207e726f9675facaca"), looks := false }, kinds := [], alts := [], laidByText := true, laidKinds := [.data, .pinned], laidTests := true, laidLooks := .later }
def PackConnectsUptoCardSaid : Prop := Claim7.holds Tryd.pinned (.plain (OpenSpec.upto packConnectsSpec)) packConnectsUptoCard

/-- THE SECOND FORM's CARD OF 'kiosklaw18.PackConnacks'. -/
def packConnacksUptoCard : Claim7 := { stood := { row := packConnacksUptoRow, standIns := [], harness := (true, "6eb4556230c54d9426ff756d75c83868ab2ed26fface84207e726f9675facaca"), looks := false }, kinds := [], alts := [], laidByText := true, laidKinds := [.data, .pinned], laidTests := true, laidLooks := .later }
def PackConnacksUptoCardSaid : Prop := Claim7.holds Tryd.pinned (.plain (OpenSpec.upto packConnacksSpec)) packConnacksUptoCard

/-- THE SECOND FORM's CARD OF 'kiosklaw18.PackPublishes'. -/
def packPublishesUptoCard : Claim7 := { stood := { row := packPublishesUptoRow, standIns := [], harness := (true, "6eb4556230c54d9426ff756d75c83868ab2ed26fface84207e726f9675facaca"), looks := false }, kinds := [], alts := [], laidByText := true, laidKinds := [.data, .pinned], laidTests := true, laidLooks := .later }
def PackPublishesUptoCardSaid : Prop := Claim7.holds Tryd.pinned (.plain (OpenSpec.upto packPublishesSpec)) packPublishesUptoCard

/-- THE SECOND FORM's CARD OF 'kiosklaw18.PackPubacks'. -/
def packPubacksUptoCard : Claim7 := { stood := { row := packPubacksUptoRow, standIns := [], harness := (true, "6eb4556230c54d9426ff756d75c83868ab2ed26fface84207e726f9675facaca"), looks := false }, kinds := [], alts := [], laidByText := true, laidKinds := [.data, .pinned], laidTests := true, laidLooks := .later }
def PackPubacksUptoCardSaid : Prop := Claim7.holds Tryd.pinned (.plain (OpenSpec.upto packPubacksSpec)) packPubacksUptoCard

/-- THE SECOND FORM's CARD OF 'kiosklaw18.PackPubrecs'. -/
def packPubrecsUptoCard : Claim7 := { stood := { row := packPubrecsUptoRow, standIns := [], harness := (true, "6eb4556230c54d9426ff756d75c83868ab2ed26fface84207e726f9675facaca"), looks := false }, kinds := [], alts := [], laidByText := true, laidKinds := [.data, .pinned], laidTests := true, laidLooks := .later }
def PackPubrecsUptoCardSaid : Prop := Claim7.holds Tryd.pinned (.plain (OpenSpec.upto packPubrecsSpec)) packPubrecsUptoCard

/-- THE SECOND FORM's CARD OF 'kiosklaw18.PackPubrels'. -/
def packPubrelsUptoCard : Claim7 := { stood := { row := packPubrelsUptoRow, standIns := [], harness := (true, "6eb4556230c54d9426ff756d75c83868ab2ed26fface84207e726f9675facaca"), looks := false }, kinds := [], alts := [], laidByText := true, laidKinds := [.data, .pinned], laidTests := true, laidLooks := .later }
def PackPubrelsUptoCardSaid : Prop := Claim7.holds Tryd.pinned (.plain (OpenSpec.upto packPubrelsSpec)) packPubrelsUptoCard

/-- THE SECOND FORM's CARD OF 'kiosklaw18.PackPubcomps'. -/
def packPubcompsUptoCard : Claim7 := { stood := { row := packPubcompsUptoRow, standIns := [], harness := (true, "6eb4556230c54d9426ff756d75c83868ab2ed26fface84207e726f9675facaca"), looks := false }, kinds := [], alts := [], laidByText := true, laidKinds := [.data, .pinned], laidTests := true, laidLooks := .later }
def PackPubcompsUptoCardSaid : Prop := Claim7.holds Tryd.pinned (.plain (OpenSpec.upto packPubcompsSpec)) packPubcompsUptoCard

/-- THE SECOND FORM's CARD OF 'kiosklaw18.PackSubscribes'. -/
def packSubscribesUptoCard : Claim7 := { stood := { row := packSubscribesUptoRow, standIns := [], harness := (true, "6eb4556230c54d9426ff756d75c83868ab2ed26fface84207e726f9675facaca"), looks := false }, kinds := [], alts := [], laidByText := true, laidKinds := [.data, .pinned], laidTests := true, laidLooks := .later }
def PackSubscribesUptoCardSaid : Prop := Claim7.holds Tryd.pinned (.plain (OpenSpec.upto packSubscribesSpec)) packSubscribesUptoCard

/-- THE SECOND FORM's CARD OF 'kiosklaw18.PackSubacks'. -/
def packSubacksUptoCard : Claim7 := { stood := { row := packSubacksUptoRow, standIns := [], harness := (true, "6eb4556230c54d9426ff756d75c83868ab2ed26fface84207e726f9675facaca"), looks := false }, kinds := [], alts := [], laidByText := true, laidKinds := [.data, .pinned], laidTests := true, laidLooks := .later }
def PackSubacksUptoCardSaid : Prop := Claim7.holds Tryd.pinned (.plain (OpenSpec.upto packSubacksSpec)) packSubacksUptoCard

/-- THE SECOND FORM's CARD OF 'kiosklaw18.PackUnsubscribes'. -/
def packUnsubscribesUptoCard : Claim7 := { stood := { row := packUnsubscribesUptoRow, standIns := [], harness := (true, "6eb4556230c54d9426ff756d75c83868ab2ed26fface84207e726f9675facaca"), looks := false }, kinds := [], alts := [], laidByText := true, laidKinds := [.data, .pinned], laidTests := true, laidLooks := .later }
def PackUnsubscribesUptoCardSaid : Prop := Claim7.holds Tryd.pinned (.plain (OpenSpec.upto packUnsubscribesSpec)) packUnsubscribesUptoCard

/-- THE SECOND FORM's CARD OF 'kiosklaw18.PackUnsubacks'. -/
def packUnsubacksUptoCard : Claim7 := { stood := { row := packUnsubacksUptoRow, standIns := [], harness := (true, "6eb4556230c54d9426ff756d75c83868ab2ed26fface84207e726f9675facaca"), looks := false }, kinds := [], alts := [], laidByText := true, laidKinds := [.data, .pinned], laidTests := true, laidLooks := .later }
def PackUnsubacksUptoCardSaid : Prop := Claim7.holds Tryd.pinned (.plain (OpenSpec.upto packUnsubacksSpec)) packUnsubacksUptoCard

/-- THE SECOND FORM's CARD OF 'kiosklaw18.PackPings'. -/
def packPingsUptoCard : Claim7 := { stood := { row := packPingsUptoRow, standIns := [], harness := (true, "6eb4556230c54d9426ff756d75c83868ab2ed26fface84207e726f9675facaca"), looks := false }, kinds := [], alts := [], laidByText := true, laidKinds := [.data, .pinned], laidTests := true, laidLooks := .later }
def PackPingsUptoCardSaid : Prop := Claim7.holds Tryd.pinned (.plain (OpenSpec.upto packPingsSpec)) packPingsUptoCard

/-- THE SECOND FORM's CARD OF 'kiosklaw18.PackPongs'. -/
def packPongsUptoCard : Claim7 := { stood := { row := packPongsUptoRow, standIns := [], harness := (true, "6eb4556230c54d9426ff756d75c83868ab2ed26fface84207e726f9675facaca"), looks := false }, kinds := [], alts := [], laidByText := true, laidKinds := [.data, .pinned], laidTests := true, laidLooks := .later }
def PackPongsUptoCardSaid : Prop := Claim7.holds Tryd.pinned (.plain (OpenSpec.upto packPongsSpec)) packPongsUptoCard

/-- THE SECOND FORM's CARD OF 'kiosklaw18.PackByes'. -/
def packByesUptoCard : Claim7 := { stood := { row := packByesUptoRow, standIns := [], harness := (true, "6eb4556230c54d9426ff756d75c83868ab2ed26fface84207e726f9675facaca"), looks := false }, kinds := [], alts := [], laidByText := true, laidKinds := [.data, .pinned], laidTests := true, laidLooks := .later }
def PackByesUptoCardSaid : Prop := Claim7.holds Tryd.pinned (.plain (OpenSpec.upto packByesSpec)) packByesUptoCard

/-- THE SECOND FORM's CARD OF 'kiosklaw19.StreamFeeds'. -/
def streamFeedsUptoCard : Claim7 := { stood := { row := streamFeedsUptoRow, standIns := [], harness := (true, "6eb4556230c54d9426ff756d75c83868ab2ed26fface84207e726f9675facaca"), looks := false }, kinds := [], alts := [], laidByText := true, laidKinds := [.data, .pinned], laidTests := true, laidLooks := .later }
def StreamFeedsUptoCardSaid : Prop := Claim7.holds Tryd.pinned (.plain (OpenSpec.upto streamFeedsSpec)) streamFeedsUptoCard

/-- THE SECOND FORM's CARD OF 'kiosklaw19.StreamParts'. -/
def streamPartsUptoCard : Claim7 := { stood := { row := streamPartsUptoRow, standIns := [], harness := (true, "6eb4556230c54d9426ff756d75c83868ab2ed26fface84207e726f9675facaca"), looks := false }, kinds := [], alts := [], laidByText := true, laidKinds := [.data, .pinned], laidTests := true, laidLooks := .later }
def StreamPartsUptoCardSaid : Prop := Claim7.holds Tryd.pinned (.plain (OpenSpec.upto streamPartsSpec)) streamPartsUptoCard
end Rows
end Go.Proofs.YtkcdkjpmbjcmdaaDoor
