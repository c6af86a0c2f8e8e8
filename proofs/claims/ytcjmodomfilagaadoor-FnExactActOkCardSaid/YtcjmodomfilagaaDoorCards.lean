/-
  DERIVED. GIVEN WITH THE SEED: THE CARDS: each row of YtcjmodomfilagaaDoorRows.lean that lists a variable, with what it lists TIED to the program's text (the seventh form; the later family's looks); each row that meets fmt, with fmt's text TOLD by the authors' own Lean function (tested against real Go, not proved from fmt's source: count such statements apart). THE CARD IS WHAT COUNTS. Prove the row's statement (the work); the ties are given (YtcjmodomfilagaaDoorTie.lean); close each card by the builder's one call (the guide's Derived/Test/ToyasCard.lean, 'card_holds'). Laid BY PROGRAM, IN A SANDBOX (cutbox-door.mjs). By AI agents, Wed Nov 11 2026. No macro, syntax, notation, axiom, sorry.
-/
import Derived.Test.YtcjmodomfilagaaDoorRows
import GoSem.ClaimSeven
namespace Go.Proofs.YtcjmodomfilagaaDoor
namespace Rows

/-- THE TIED CARD OF 'laws.FnExactActOk'. -/
def fnExactActOkCard : Claim7 := { stood := { row := fnExactActOkRow, standIns := [], harness := (true, "917cc9a97ab5e3c273a85c0bdfa3b08cd3efed84b213f063a56b109834d47256"), looks := false }, kinds := [], alts := [], laidByText := true, laidKinds := [.data], laidTests := true, laidLooks := .later }
def FnExactActOkCardSaid : Prop := Claim7.holds Tryd.pinned (.plain (OpenSpec.ofChange fnExactActOkSpec)) fnExactActOkCard

/-- THE SECOND FORM's CARD OF 'laws.FnExactActOk'. -/
def fnExactActOkUptoCard : Claim7 := { stood := { row := fnExactActOkUptoRow, standIns := [], harness := (true, "917cc9a97ab5e3c273a85c0bdfa3b08cd3efed84b213f063a56b109834d47256"), looks := false }, kinds := [], alts := [], laidByText := true, laidKinds := [.data], laidTests := true, laidLooks := .later }
def FnExactActOkUptoCardSaid : Prop := Claim7.holds Tryd.pinned (.plain (OpenSpec.upto fnExactActOkSpec)) fnExactActOkUptoCard
end Rows
end Go.Proofs.YtcjmodomfilagaaDoor
