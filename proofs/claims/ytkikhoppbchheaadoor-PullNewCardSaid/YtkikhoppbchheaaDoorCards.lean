/-
  DERIVED. GIVEN WITH THE SEED: THE CARDS: each row of YtkikhoppbchheaaDoorRows.lean that lists a variable, with what it lists TIED to the program's text (the seventh form; the later family's looks); each row that meets fmt, with fmt's text TOLD by the authors' own Lean function (tested against real Go, not proved from fmt's source: count such statements apart). THE CARD IS WHAT COUNTS. Prove the row's statement (the work); the ties are given (YtkikhoppbchheaaDoorTie.lean); close each card by the builder's one call (the guide's Derived/Test/ToyasCard.lean, 'card_holds'). Laid BY PROGRAM, IN A SANDBOX (cutbox-door.mjs). By AI agents, Wed Nov 11 2026. No macro, syntax, notation, axiom, sorry.
-/
import Derived.Test.YtkikhoppbchheaaDoorRows
import GoSem.ClaimSeven
namespace Go.Proofs.YtkikhoppbchheaaDoor
namespace Rows

/-- THE TIED CARD OF 'hearsaylaw30.PullNew'. -/
def pullNewCard : Claim7 := { stood := { row := pullNewRow, standIns := [], harness := (true, "51a70f5691c8e3f7305e347e8716cd4116a519d9c9242d801a5517975128b0eb"), looks := false }, kinds := [], alts := [], laidByText := true, laidKinds := [.data, .pinned], laidTests := true, laidLooks := .later }
def PullNewCardSaid : Prop := Claim7.holds Tryd.pinned (.plain (OpenSpec.ofChange pullNewSpec)) pullNewCard

/-- THE SECOND FORM's CARD OF 'hearsaylaw30.PullNew'. -/
def pullNewUptoCard : Claim7 := { stood := { row := pullNewUptoRow, standIns := [], harness := (true, "51a70f5691c8e3f7305e347e8716cd4116a519d9c9242d801a5517975128b0eb"), looks := false }, kinds := [], alts := [], laidByText := true, laidKinds := [.data, .pinned], laidTests := true, laidLooks := .later }
def PullNewUptoCardSaid : Prop := Claim7.holds Tryd.pinned (.plain (OpenSpec.upto pullNewSpec)) pullNewUptoCard
end Rows
end Go.Proofs.YtkikhoppbchheaaDoor
