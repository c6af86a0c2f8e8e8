/-
  DERIVED. GIVEN WITH THE SEED: THE CARDS: each row of YtpleoapljeffiaaGreatDoorRows.lean that lists a variable, with what it lists TIED to the program's text (the seventh form; the later family's looks); each row that meets fmt, with fmt's text TOLD by the authors' own Lean function (tested against real Go, not proved from fmt's source: count such statements apart). THE CARD IS WHAT COUNTS. Prove the row's statement (the work); the ties are given (YtpleoapljeffiaaGreatDoorTie.lean); close each card by the builder's one call (the guide's Derived/Test/ToyasCard.lean, 'card_holds'). Laid BY PROGRAM, IN A SANDBOX (cutbox-door.mjs). By AI agents, Wed Nov 11 2026. No macro, syntax, notation, axiom, sorry.
-/
import Derived.Test.YtpleoapljeffiaaGreatDoorRows
import GoSem.ClaimSeven
namespace Go.Proofs.YtpleoapljeffiaaGreatDoor
namespace Rows

/-- THE TIED CARD OF 'laws.FnExactPlay'. -/
def fnExactPlayCard : Claim7 := { stood := { row := fnExactPlayRow, standIns := [], harness := (true, "647db82087bead771a2f6c783cfd8653ceff6f073cc26709f3c1672bbae5cdec"), looks := false }, kinds := [], alts := [], laidByText := true, laidKinds := [.data], laidTests := true, laidLooks := .later }
def FnExactPlayCardSaid : Prop := Claim7.holds Tryz.pinned (.plain (OpenSpec.ofChange fnExactPlaySpec)) fnExactPlayCard

/-- THE TIED CARD OF 'laws.FnExactDo'. -/
def fnExactDoCard : Claim7 := { stood := { row := fnExactDoRow, standIns := [], harness := (true, "647db82087bead771a2f6c783cfd8653ceff6f073cc26709f3c1672bbae5cdec"), looks := false }, kinds := [], alts := [], laidByText := true, laidKinds := [.data], laidTests := true, laidLooks := .later }
def FnExactDoCardSaid : Prop := Claim7.holds Tryz.pinned (.plain (OpenSpec.ofChange fnExactDoSpec)) fnExactDoCard

/-- THE SECOND FORM's CARD OF 'laws.FnExactPlay'. -/
def fnExactPlayUptoCard : Claim7 := { stood := { row := fnExactPlayUptoRow, standIns := [], harness := (true, "647db82087bead771a2f6c783cfd8653ceff6f073cc26709f3c1672bbae5cdec"), looks := false }, kinds := [], alts := [], laidByText := true, laidKinds := [.data], laidTests := true, laidLooks := .later }
def FnExactPlayUptoCardSaid : Prop := Claim7.holds Tryz.pinned (.plain (OpenSpec.upto fnExactPlaySpec)) fnExactPlayUptoCard

/-- THE SECOND FORM's CARD OF 'laws.FnExactDo'. -/
def fnExactDoUptoCard : Claim7 := { stood := { row := fnExactDoUptoRow, standIns := [], harness := (true, "647db82087bead771a2f6c783cfd8653ceff6f073cc26709f3c1672bbae5cdec"), looks := false }, kinds := [], alts := [], laidByText := true, laidKinds := [.data], laidTests := true, laidLooks := .later }
def FnExactDoUptoCardSaid : Prop := Claim7.holds Tryz.pinned (.plain (OpenSpec.upto fnExactDoSpec)) fnExactDoUptoCard
end Rows
end Go.Proofs.YtpleoapljeffiaaGreatDoor
