/-
  DERIVED. GIVEN WITH THE SEED: THE CARDS: each row of YtlacidnnankjlaaGreatDoorRows.lean that lists a variable, with what it lists TIED to the program's text (the seventh form; the later family's looks); each row that meets fmt, with fmt's text TOLD by the authors' own Lean function (tested against real Go, not proved from fmt's source: count such statements apart). THE CARD IS WHAT COUNTS. Prove the row's statement (the work); the ties are given (YtlacidnnankjlaaGreatDoorTie.lean); close each card by the builder's one call (the guide's Derived/Test/ToyasCard.lean, 'card_holds'). Laid BY PROGRAM, IN A SANDBOX (cutbox-door.mjs). By AI agents, Wed Nov 11 2026. No macro, syntax, notation, axiom, sorry.
-/
import Derived.Test.YtlacidnnankjlaaGreatDoorRows
import GoSem.ClaimSeven
namespace Go.Proofs.YtlacidnnankjlaaGreatDoor
namespace Rows

/-- THE TIED CARD OF 'kiosklaw28.ClientDeaf'. -/
def clientDeafCard : Claim7 := { stood := { row := clientDeafRow, standIns := [], harness := (true, "1d6a9c5b39f0021854437d5374770d3a444cede059f5e30cfccef2e5c77247af"), looks := false }, kinds := [], alts := [], laidByText := true, laidKinds := [.data, .pinned], laidTests := true, laidLooks := .later }
def ClientDeafCardSaid : Prop := Claim7.holds Tryz.pinned (.plain (OpenSpec.ofChange clientDeafSpec)) clientDeafCard

/-- THE TIED CARD OF 'kiosklaw27.TraceExact'. -/
def traceExactCard : Claim7 := { stood := { row := traceExactRow, standIns := [], harness := (true, "1d6a9c5b39f0021854437d5374770d3a444cede059f5e30cfccef2e5c77247af"), looks := false }, kinds := [], alts := [], laidByText := true, laidKinds := [.data, .pinned], laidTests := true, laidLooks := .later }
def TraceExactCardSaid : Prop := Claim7.holds Tryz.pinned (.plain (OpenSpec.ofChange traceExactSpec)) traceExactCard

/-- THE TIED CARD OF 'kiosklaw27.TraceTells'. -/
def traceTellsCard : Claim7 := { stood := { row := traceTellsRow, standIns := [], harness := (true, "1d6a9c5b39f0021854437d5374770d3a444cede059f5e30cfccef2e5c77247af"), looks := false }, kinds := [], alts := [], laidByText := true, laidKinds := [.data, .pinned], laidTests := true, laidLooks := .later }
def TraceTellsCardSaid : Prop := Claim7.holds Tryz.pinned (.plain (OpenSpec.ofChange traceTellsSpec)) traceTellsCard

/-- THE TIED CARD OF 'kiosklaw28.ClientTalks'. -/
def clientTalksCard : Claim7 := { stood := { row := clientTalksRow, standIns := [], harness := (true, "1d6a9c5b39f0021854437d5374770d3a444cede059f5e30cfccef2e5c77247af"), looks := false }, kinds := [], alts := [], laidByText := true, laidKinds := [.data, .pinned], laidTests := true, laidLooks := .later }
def ClientTalksCardSaid : Prop := Claim7.holds Tryz.pinned (.plain (OpenSpec.ofChange clientTalksSpec)) clientTalksCard

/-- THE SECOND FORM's CARD OF 'kiosklaw28.ClientDeaf'. -/
def clientDeafUptoCard : Claim7 := { stood := { row := clientDeafUptoRow, standIns := [], harness := (true, "1d6a9c5b39f0021854437d5374770d3a444cede059f5e30cfccef2e5c77247af"), looks := false }, kinds := [], alts := [], laidByText := true, laidKinds := [.data, .pinned], laidTests := true, laidLooks := .later }
def ClientDeafUptoCardSaid : Prop := Claim7.holds Tryz.pinned (.plain (OpenSpec.upto clientDeafSpec)) clientDeafUptoCard

/-- THE SECOND FORM's CARD OF 'kiosklaw27.TraceExact'. -/
def traceExactUptoCard : Claim7 := { stood := { row := traceExactUptoRow, standIns := [], harness := (true, "1d6a9c5b39f0021854437d5374770d3a444cede059f5e30cfccef2e5c77247af"), looks := false }, kinds := [], alts := [], laidByText := true, laidKinds := [.data, .pinned], laidTests := true, laidLooks := .later }
def TraceExactUptoCardSaid : Prop := Claim7.holds Tryz.pinned (.plain (OpenSpec.upto traceExactSpec)) traceExactUptoCard

/-- THE SECOND FORM's CARD OF 'kiosklaw27.TraceTells'. -/
def traceTellsUptoCard : Claim7 := { stood := { row := traceTellsUptoRow, standIns := [], harness := (true, "1d6a9c5b39f0021854437d5374770d3a444cede059f5e30cfccef2e5c77247af"), looks := false }, kinds := [], alts := [], laidByText := true, laidKinds := [.data, .pinned], laidTests := true, laidLooks := .later }
def TraceTellsUptoCardSaid : Prop := Claim7.holds Tryz.pinned (.plain (OpenSpec.upto traceTellsSpec)) traceTellsUptoCard

/-- THE SECOND FORM's CARD OF 'kiosklaw28.ClientTalks'. -/
def clientTalksUptoCard : Claim7 := { stood := { row := clientTalksUptoRow, standIns := [], harness := (true, "1d6a9c5b39f0021854437d5374770d3a444cede059f5e30cfccef2e5c77247af"), looks := false }, kinds := [], alts := [], laidByText := true, laidKinds := [.data, .pinned], laidTests := true, laidLooks := .later }
def ClientTalksUptoCardSaid : Prop := Claim7.holds Tryz.pinned (.plain (OpenSpec.upto clientTalksSpec)) clientTalksUptoCard
end Rows
end Go.Proofs.YtlacidnnankjlaaGreatDoor
