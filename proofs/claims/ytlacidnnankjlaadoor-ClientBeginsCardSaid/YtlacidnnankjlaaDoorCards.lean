/-
  DERIVED. GIVEN WITH THE SEED: THE CARDS: each row of YtlacidnnankjlaaDoorRows.lean that lists a variable, with what it lists TIED to the program's text (the seventh form; the later family's looks); each row that meets fmt, with fmt's text TOLD by the authors' own Lean function (tested against real Go, not proved from fmt's source: count such statements apart). THE CARD IS WHAT COUNTS. Prove the row's statement (the work); the ties are given (YtlacidnnankjlaaDoorTie.lean); close each card by the builder's one call (the guide's Derived/Test/ToyasCard.lean, 'card_holds'). Laid BY PROGRAM, IN A SANDBOX (cutbox-door.mjs). By AI agents, Wed Nov 11 2026. No macro, syntax, notation, axiom, sorry.
-/
import Derived.Test.YtlacidnnankjlaaDoorRows
import GoSem.ClaimSeven
namespace Go.Proofs.YtlacidnnankjlaaDoor
namespace Rows

/-- THE TIED CARD OF 'kiosklaw28.ClientBegins'. -/
def clientBeginsCard : Claim7 := { stood := { row := clientBeginsRow, standIns := [], harness := (true, "04d0a05e907013b3561e07a2ba956a3524175d426a810ccb34aa4426a6623fef"), looks := false }, kinds := [], alts := [], laidByText := true, laidKinds := [.data, .pinned], laidTests := true, laidLooks := .later }
def ClientBeginsCardSaid : Prop := Claim7.holds Tryd.pinned (.plain (OpenSpec.ofChange clientBeginsSpec)) clientBeginsCard

/-- THE SECOND FORM's CARD OF 'kiosklaw28.ClientBegins'. -/
def clientBeginsUptoCard : Claim7 := { stood := { row := clientBeginsUptoRow, standIns := [], harness := (true, "04d0a05e907013b3561e07a2ba956a3524175d426a810ccb34aa4426a6623fef"), looks := false }, kinds := [], alts := [], laidByText := true, laidKinds := [.data, .pinned], laidTests := true, laidLooks := .later }
def ClientBeginsUptoCardSaid : Prop := Claim7.holds Tryd.pinned (.plain (OpenSpec.upto clientBeginsSpec)) clientBeginsUptoCard
end Rows
end Go.Proofs.YtlacidnnankjlaaDoor
