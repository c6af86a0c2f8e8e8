/-
  NARROWER THAN 'FOR EVERY INPUT', by the rows' own cells (each row's printed sentence says how): FnExactPlay: laid · FnExactDo: laid.
  DERIVED. THE GIVEN ROWS OF THIS SEAT. 2 by the template 'for every input the law returns true; each argument reads behind the call as it read before'; 0 by the template 'total and deterministic' (their statements: YtpleoapljeffiaaGreatDoorTotals.lean).
  GIVEN WITH THE SEED: the statements are not yours to turn. If you find one false, say at which input.
  Laid BY PROGRAM, IN A SANDBOX (cutbox-rows.mjs): the forced cells as the released guide's own fill.sh prints them over the translation 17e7dd01bcf79ddd… (all of the seat's roots in one cut). By AI agents, Wed Nov 11 2026. No macro, syntax, notation, axiom, sorry.
-/
import Derived.Test.YtpleoapljeffiaaGreatDoorChecked
import GoSem.Claim
import GoSem.ClaimJoined
import GoSem.ClaimMapViews
import Derived.JoinedTies
import Derived.KernelRfl
namespace Go.Proofs.YtpleoapljeffiaaGreatDoor
/- THE CELL 'sum', in the pinned program and in every row, IS THE sha256 OF THE DUMP (.gsa) THAT YtpleoapljeffiaaGreatDoorProg.lean LOADS. Nothing in Lean hashes anything: it is a label: what it is worth is what the hold of that sum in a sandbox is worth. -/
noncomputable def Tryz.pinned : Pinned := { name := "ytpleoapljeffiaagreatdoor", sum := "17e7dd01bcf79ddd6263d668eaa8ede910b3a687a0cceabfcd8f3993d81edc0b", checked := Tryz.checked }
namespace Rows
def none {H : Type} : Left H := { results := [], args := [] }

/- WHAT THE LISTED PACKAGE-LEVEL VARIABLES READ AS WHEN THE CALL BEGINS. Each datum BY PROGRAM (the guide's laid-datum.mjs) off the statement by which the dump's own 'gosem.cut.vars' lays the variable. In a bare row this is a premise. The card (YtpleoapljeffiaaGreatDoorCards.lean) ties it to the program's text. -/
def laid_loop_example_spool_impl_forms {H : Type} : DataW H := .slice [.agg [.lit (.string []), .lit (.int .i64 0), .lit (.int .i64 0), .lit (.int .i64 0), .lit (.bool false)], .agg [.lit (.string [110, 101, 119]), .lit (.int .i64 15), .lit (.int .i64 255), .lit (.int .i64 200), .lit (.bool false)], .agg [.lit (.string [110, 117, 109]), .lit (.int .i64 15), .lit (.int .i64 (-1)), .lit (.int .i64 (-1)), .lit (.bool true)], .agg [.lit (.string [110, 105, 108]), .lit (.int .i64 15), .lit (.int .i64 (-1)), .lit (.int .i64 (-1)), .lit (.bool false)], .agg [.lit (.string [99, 111, 112, 121]), .lit (.int .i64 15), .lit (.int .i64 15), .lit (.int .i64 (-1)), .lit (.bool false)], .agg [.lit (.string [107, 101, 121]), .lit (.int .i64 15), .lit (.int .i64 15), .lit (.int .i64 199), .lit (.bool false)], .agg [.lit (.string [118, 97, 108]), .lit (.int .i64 15), .lit (.int .i64 15), .lit (.int .i64 199), .lit (.bool false)], .agg [.lit (.string [115, 101, 116, 107, 101, 121]), .lit (.int .i64 15), .lit (.int .i64 15), .lit (.int .i64 199), .lit (.bool false)], .agg [.lit (.string [115, 101, 116, 118, 97, 108]), .lit (.int .i64 15), .lit (.int .i64 15), .lit (.int .i64 199), .lit (.bool false)], .agg [.lit (.string [103, 114, 111, 119]), .lit (.int .i64 15), .lit (.int .i64 (-1)), .lit (.int .i64 200), .lit (.bool false)], .agg [.lit (.string [99, 117, 116]), .lit (.int .i64 15), .lit (.int .i64 (-1)), .lit (.int .i64 200), .lit (.bool false)], .agg [.lit (.string [119, 101, 97, 107]), .lit (.int .i64 15), .lit (.int .i64 (-1)), .lit (.int .i64 3), .lit (.bool false)], .agg [.lit (.string [108, 97, 115, 116]), .lit (.int .i64 15), .lit (.int .i64 (-1)), .lit (.int .i64 1), .lit (.bool false)], .agg [.lit (.string [115, 97, 109, 101]), .lit (.int .i64 15), .lit (.int .i64 15), .lit (.int .i64 (-1)), .lit (.bool false)], .agg [.lit (.string [119, 111, 114, 100]), .lit (.int .i64 15), .lit (.int .i64 (-1)), .lit (.int .i64 (-1)), .lit (.bool false)], .agg [.lit (.string [110, 117, 109, 98, 101, 114]), .lit (.int .i64 15), .lit (.int .i64 (-1)), .lit (.int .i64 (-1)), .lit (.bool false)], .agg [.lit (.string [107, 105, 110, 100]), .lit (.int .i64 15), .lit (.int .i64 (-1)), .lit (.int .i64 (-1)), .lit (.bool false)], .agg [.lit (.string [115, 105, 122, 101]), .lit (.int .i64 15), .lit (.int .i64 (-1)), .lit (.int .i64 (-1)), .lit (.bool false)], .agg [.lit (.string [115, 101, 116, 116, 108, 101]), .lit (.int .i64 (-1)), .lit (.int .i64 (-1)), .lit (.int .i64 (-1)), .lit (.bool false)], .agg [.lit (.string [100, 117, 101]), .lit (.int .i64 15), .lit (.int .i64 (-1)), .lit (.int .i64 (-1)), .lit (.bool false)], .agg [.lit (.string [99, 111, 117, 110, 116]), .lit (.int .i64 (-1)), .lit (.int .i64 (-1)), .lit (.int .i64 (-1)), .lit (.bool false)], .agg [.lit (.string [108, 105, 118, 101]), .lit (.int .i64 (-1)), .lit (.int .i64 (-1)), .lit (.int .i64 (-1)), .lit (.bool false)], .agg [.lit (.string [115, 116, 101, 112]), .lit (.int .i64 (-1)), .lit (.int .i64 (-1)), .lit (.int .i64 100000), .lit (.bool false)], .agg [.lit (.string [112, 97, 99, 101]), .lit (.int .i64 (-1)), .lit (.int .i64 64), .lit (.int .i64 4000), .lit (.bool false)], .agg [.lit (.string [114, 111, 117, 110, 100]), .lit (.int .i64 (-1)), .lit (.int .i64 (-1)), .lit (.int .i64 (-1)), .lit (.bool false)]] []

/-- 'laws.FnExactPlay': WHATEVER THE INPUT: true; the input reads as it did. -/
def fnExactPlaySpec : ChangeSpec := { name := "fnExactPlay", vars := ["loop.example/spool/impl.forms"], fn := fun _ => fun
  | [d1, d2, g1] => { results := [.lit (.bool true)], args := [d1, d2], vars := [g1] }
  | _ => none }
def fnExactPlayRow : OpenClaim := { program := "ytpleoapljeffiaagreatdoor", sum := "17e7dd01bcf79ddd6263d668eaa8ede910b3a687a0cceabfcd8f3993d81edc0b", func := "loop.example/spool/laws.FnExactPlay", spec := "fnExactPlay", unfollowed := true, recurses := true, named := ["loop.example/spool/impl.forms"], apart := false, laid := [("loop.example/spool/impl.forms", laid_loop_example_spool_impl_forms)] }
def FnExactPlaySaid : Prop := fnExactPlayRow.holds Tryz.pinned (OpenSpec.ofChange fnExactPlaySpec)

/-- ITS FALSE NEIGHBOUR: 'it returns false'. Refute it at one input. -/
def fnExactPlayWrong : ChangeSpec := { name := "fnExactPlay", vars := ["loop.example/spool/impl.forms"], fn := fun _ => fun
  | [d1, d2, g1] => { results := [.lit (.bool false)], args := [d1, d2], vars := [g1] }
  | _ => none }
def FnExactPlayWrongFalsely : Prop := fnExactPlayRow.holds Tryz.pinned (OpenSpec.ofChange fnExactPlayWrong)

/-- 'laws.FnExactDo': WHATEVER THE INPUT: true; the input reads as it did. -/
def fnExactDoSpec : ChangeSpec := { name := "fnExactDo", vars := ["loop.example/spool/impl.forms"], fn := fun _ => fun
  | [d1, d2, g1] => { results := [.lit (.bool true)], args := [d1, d2], vars := [g1] }
  | _ => none }
def fnExactDoRow : OpenClaim := { program := "ytpleoapljeffiaagreatdoor", sum := "17e7dd01bcf79ddd6263d668eaa8ede910b3a687a0cceabfcd8f3993d81edc0b", func := "loop.example/spool/laws.FnExactDo", spec := "fnExactDo", unfollowed := true, recurses := true, named := ["loop.example/spool/impl.forms"], apart := false, laid := [("loop.example/spool/impl.forms", laid_loop_example_spool_impl_forms)] }
def FnExactDoSaid : Prop := fnExactDoRow.holds Tryz.pinned (OpenSpec.ofChange fnExactDoSpec)

/-- ITS FALSE NEIGHBOUR: 'it returns false'. Refute it at one input. -/
def fnExactDoWrong : ChangeSpec := { name := "fnExactDo", vars := ["loop.example/spool/impl.forms"], fn := fun _ => fun
  | [d1, d2, g1] => { results := [.lit (.bool false)], args := [d1, d2], vars := [g1] }
  | _ => none }
def FnExactDoWrongFalsely : Prop := fnExactDoRow.holds Tryz.pinned (OpenSpec.ofChange fnExactDoWrong)

/- THE SECOND FORM. 'bulk': how many values and letters a reading holds, each counted each time it is reached (what is shared counts as often as it is met; a slice's spare places count too). A statement '..UptoSaid' is the law's where the arguments, and the package variables that the reading takes, are together of bulk at most 1048576: NARROWER than '..Said'. Prove '..Said' where nothing that the law and all that it calls make is longer than what came in: it says more and counts as full. Else prove '..UptoSaid'. A law counts once. -/
mutual
def uptoBulk {H : Type} : DataW H → Nat
  | .lit (.string bytes) => bytes.length + 1
  | .lit _ => 1
  | .nil => 1
  | .ptr d => uptoBulk d + 1
  | .slice elems spare => uptoBulkAll elems + uptoBulkAll spare + 1
  | .agg parts => uptoBulkAll parts + 1
  | .iface _ d => uptoBulk d + 1
  | .map entries => uptoBulkEntries entries + 1
  | .held _ => 1
def uptoBulkAll {H : Type} : List (DataW H) → Nat
  | [] => 0
  | d :: r => uptoBulk d + uptoBulkAll r
def uptoBulkEntries {H : Type} : List (Lit × DataW H) → Nat
  | [] => 0
  | x :: r => uptoBulkEntry x + uptoBulkEntries r
def uptoBulkEntry {H : Type} : Lit × DataW H → Nat
  | (.string bytes, d) => bytes.length + uptoBulk d + 1
  | (_, d) => uptoBulk d + 1
 end
def uptoSmall : (H : Type) → List (DataW H) → Bool := fun _ ds => decide (uptoBulkAll ds ≤ 1048576)
def OpenSpec.upto (s : _root_.Go.ChangeSpec) : _root_.Go.OpenSpec := { _root_.Go.OpenSpec.ofChange s with cond := some uptoSmall }

/-- 'laws.FnExactPlay', WHERE WHAT IT READS IS OF BULK AT MOST 1048576: true; the input reads as it did. -/
def fnExactPlayUptoRow : OpenClaim := { program := "ytpleoapljeffiaagreatdoor", sum := "17e7dd01bcf79ddd6263d668eaa8ede910b3a687a0cceabfcd8f3993d81edc0b", func := "loop.example/spool/laws.FnExactPlay", spec := "fnExactPlay", unfollowed := true, recurses := true, named := ["loop.example/spool/impl.forms"], apart := false, laid := [("loop.example/spool/impl.forms", laid_loop_example_spool_impl_forms)], narrowed := true }
def FnExactPlayUptoSaid : Prop := fnExactPlayUptoRow.holds Tryz.pinned (OpenSpec.upto fnExactPlaySpec)

/-- 'laws.FnExactDo', WHERE WHAT IT READS IS OF BULK AT MOST 1048576: true; the input reads as it did. -/
def fnExactDoUptoRow : OpenClaim := { program := "ytpleoapljeffiaagreatdoor", sum := "17e7dd01bcf79ddd6263d668eaa8ede910b3a687a0cceabfcd8f3993d81edc0b", func := "loop.example/spool/laws.FnExactDo", spec := "fnExactDo", unfollowed := true, recurses := true, named := ["loop.example/spool/impl.forms"], apart := false, laid := [("loop.example/spool/impl.forms", laid_loop_example_spool_impl_forms)], narrowed := true }
def FnExactDoUptoSaid : Prop := fnExactDoUptoRow.holds Tryz.pinned (OpenSpec.upto fnExactDoSpec)

end Rows
end Go.Proofs.YtpleoapljeffiaaGreatDoor
