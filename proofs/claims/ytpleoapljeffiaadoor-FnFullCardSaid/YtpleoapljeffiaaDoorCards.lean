/-
  DERIVED. GIVEN WITH THE SEED: THE CARDS: each row of YtpleoapljeffiaaDoorRows.lean that lists a variable, with what it lists TIED to the program's text (the seventh form; the later family's looks); each row that meets fmt, with fmt's text TOLD by the authors' own Lean function (tested against real Go, not proved from fmt's source: count such statements apart). THE CARD IS WHAT COUNTS. Prove the row's statement (the work); the ties are given (YtpleoapljeffiaaDoorTie.lean); close each card by the builder's one call (the guide's Derived/Test/ToyasCard.lean, 'card_holds'). Laid BY PROGRAM, IN A SANDBOX (cutbox-door.mjs). By AI agents, Wed Nov 11 2026. No macro, syntax, notation, axiom, sorry.
-/
import Derived.Test.YtpleoapljeffiaaDoorRows
import GoSem.ClaimSeven
namespace Go.Proofs.YtpleoapljeffiaaDoor
namespace Rows

/-- THE TIED CARD OF 'laws.FnChain'. -/
def fnChainCard : Claim7 := { stood := { row := fnChainRow, standIns := [], harness := (true, "26ff3887d33b930c2459f22cee3d7aa362ca79776e31536e1d6799ee54f5e36f"), looks := false }, kinds := [], alts := [], laidByText := true, laidKinds := [.data], laidTests := true, laidLooks := .later }
def FnChainCardSaid : Prop := Claim7.holds Tryd.pinned (.plain (OpenSpec.ofChange fnChainSpec)) fnChainCard

/-- THE TIED CARD OF 'laws.FnLasts'. -/
def fnLastsCard : Claim7 := { stood := { row := fnLastsRow, standIns := [], harness := (true, "26ff3887d33b930c2459f22cee3d7aa362ca79776e31536e1d6799ee54f5e36f"), looks := false }, kinds := [], alts := [], laidByText := true, laidKinds := [.data], laidTests := true, laidLooks := .later }
def FnLastsCardSaid : Prop := Claim7.holds Tryd.pinned (.plain (OpenSpec.ofChange fnLastsSpec)) fnLastsCard

/-- THE TIED CARD OF 'laws.FnFull'. -/
def fnFullCard : Claim7 := { stood := { row := fnFullRow, standIns := [], harness := (true, "26ff3887d33b930c2459f22cee3d7aa362ca79776e31536e1d6799ee54f5e36f"), looks := false }, kinds := [], alts := [], laidByText := true, laidKinds := [.data], laidTests := true, laidLooks := .later }
def FnFullCardSaid : Prop := Claim7.holds Tryd.pinned (.plain (OpenSpec.ofChange fnFullSpec)) fnFullCard

/-- THE SECOND FORM's CARD OF 'laws.FnChain'. -/
def fnChainUptoCard : Claim7 := { stood := { row := fnChainUptoRow, standIns := [], harness := (true, "26ff3887d33b930c2459f22cee3d7aa362ca79776e31536e1d6799ee54f5e36f"), looks := false }, kinds := [], alts := [], laidByText := true, laidKinds := [.data], laidTests := true, laidLooks := .later }
def FnChainUptoCardSaid : Prop := Claim7.holds Tryd.pinned (.plain (OpenSpec.upto fnChainSpec)) fnChainUptoCard

/-- THE SECOND FORM's CARD OF 'laws.FnLasts'. -/
def fnLastsUptoCard : Claim7 := { stood := { row := fnLastsUptoRow, standIns := [], harness := (true, "26ff3887d33b930c2459f22cee3d7aa362ca79776e31536e1d6799ee54f5e36f"), looks := false }, kinds := [], alts := [], laidByText := true, laidKinds := [.data], laidTests := true, laidLooks := .later }
def FnLastsUptoCardSaid : Prop := Claim7.holds Tryd.pinned (.plain (OpenSpec.upto fnLastsSpec)) fnLastsUptoCard

/-- THE SECOND FORM's CARD OF 'laws.FnFull'. -/
def fnFullUptoCard : Claim7 := { stood := { row := fnFullUptoRow, standIns := [], harness := (true, "26ff3887d33b930c2459f22cee3d7aa362ca79776e31536e1d6799ee54f5e36f"), looks := false }, kinds := [], alts := [], laidByText := true, laidKinds := [.data], laidTests := true, laidLooks := .later }
def FnFullUptoCardSaid : Prop := Claim7.holds Tryd.pinned (.plain (OpenSpec.upto fnFullSpec)) fnFullUptoCard
end Rows
end Go.Proofs.YtpleoapljeffiaaDoor
