/-
  No cell of these rows narrows 'for every input' (looked for: loops, veiled, ifaces, maps, wideKeys, modest, calm, conditions, laid).
  DERIVED. THE GIVEN ROWS OF THIS SEAT. 15 by the template 'for every input the law returns true; each argument reads behind the call as it read before'; 0 by the template 'total and deterministic' (their statements: YtcmllambknfleaaTotals.lean).
  GIVEN WITH THE SEED: the statements are not yours to turn. If you find one false, say at which input.
  Laid BY PROGRAM, IN A SANDBOX (cutbox-rows.mjs): the forced cells as the released guide's own fill.sh prints them over the translation a59a3e5be9113236… (all of the seat's roots in one cut). By AI agents, Wed Nov 11 2026. No macro, syntax, notation, axiom, sorry.
-/
import Derived.Test.YtcmllambknfleaaChecked
import GoSem.Claim
import GoSem.ClaimJoined
import GoSem.ClaimMapViews
import Derived.JoinedTies
import Derived.KernelRfl
namespace Go.Proofs.Ytcmllambknfleaa
/- THE CELL 'sum', in the pinned program and in every row, IS THE sha256 OF THE DUMP (.gsa) THAT YtcmllambknfleaaProg.lean LOADS. Nothing in Lean hashes anything: it is a label: what it is worth is what the hold of that sum in a sandbox is worth. -/
noncomputable def Try.pinned : Pinned := { name := "ytcmllambknfleaa", sum := "a59a3e5be9113236baed2e68eee3a425e5f9aa5a726151e993e08fb4e6d9d1e9", checked := Try.checked }
namespace Rows
def none {H : Type} : Left H := { results := [], args := [] }

/-- 'laws.FnExactConstants': WHATEVER THE INPUT: true; the input reads as it did. -/
def fnExactConstantsSpec : ChangeSpec := { name := "fnExactConstants", fn := fun _ => fun
  | [] => { results := [.lit (.bool true)], args := [] }
  | _ => none }
def fnExactConstantsRow : OpenClaim := { program := "ytcmllambknfleaa", sum := "a59a3e5be9113236baed2e68eee3a425e5f9aa5a726151e993e08fb4e6d9d1e9", func := "loop.example/spool/laws.FnExactConstants", spec := "fnExactConstants", apart := false }
def FnExactConstantsSaid : Prop := fnExactConstantsRow.holds Try.pinned (OpenSpec.ofChange fnExactConstantsSpec)

/-- ITS FALSE NEIGHBOUR: 'it returns false'. Refute it at one input. -/
def fnExactConstantsWrong : ChangeSpec := { name := "fnExactConstants", fn := fun _ => fun
  | [] => { results := [.lit (.bool false)], args := [] }
  | _ => none }
def FnExactConstantsWrongFalsely : Prop := fnExactConstantsRow.holds Try.pinned (OpenSpec.ofChange fnExactConstantsWrong)

/-- 'laws.FnExactPlain': WHATEVER THE INPUT: true; the input reads as it did. -/
def fnExactPlainSpec : ChangeSpec := { name := "fnExactPlain", fn := fun _ => fun
  | [d] => { results := [.lit (.bool true)], args := [d] }
  | _ => none }
def fnExactPlainRow : OpenClaim := { program := "ytcmllambknfleaa", sum := "a59a3e5be9113236baed2e68eee3a425e5f9aa5a726151e993e08fb4e6d9d1e9", func := "loop.example/spool/laws.FnExactPlain", spec := "fnExactPlain", apart := false }
def FnExactPlainSaid : Prop := fnExactPlainRow.holds Try.pinned (OpenSpec.ofChange fnExactPlainSpec)

/-- ITS FALSE NEIGHBOUR: 'it returns false'. Refute it at one input. -/
def fnExactPlainWrong : ChangeSpec := { name := "fnExactPlain", fn := fun _ => fun
  | [d] => { results := [.lit (.bool false)], args := [d] }
  | _ => none }
def FnExactPlainWrongFalsely : Prop := fnExactPlainRow.holds Try.pinned (OpenSpec.ofChange fnExactPlainWrong)

/-- 'laws.FnExactFresh': WHATEVER THE INPUT: true; the input reads as it did. -/
def fnExactFreshSpec : ChangeSpec := { name := "fnExactFresh", fn := fun _ => fun
  | [d] => { results := [.lit (.bool true)], args := [d] }
  | _ => none }
def fnExactFreshRow : OpenClaim := { program := "ytcmllambknfleaa", sum := "a59a3e5be9113236baed2e68eee3a425e5f9aa5a726151e993e08fb4e6d9d1e9", func := "loop.example/spool/laws.FnExactFresh", spec := "fnExactFresh", apart := false }
def FnExactFreshSaid : Prop := fnExactFreshRow.holds Try.pinned (OpenSpec.ofChange fnExactFreshSpec)

/-- ITS FALSE NEIGHBOUR: 'it returns false'. Refute it at one input. -/
def fnExactFreshWrong : ChangeSpec := { name := "fnExactFresh", fn := fun _ => fun
  | [d] => { results := [.lit (.bool false)], args := [d] }
  | _ => none }
def FnExactFreshWrongFalsely : Prop := fnExactFreshRow.holds Try.pinned (OpenSpec.ofChange fnExactFreshWrong)

/-- 'laws.FnExactHeapOk': WHATEVER THE INPUT: true; the input reads as it did. -/
def fnExactHeapOkSpec : ChangeSpec := { name := "fnExactHeapOk", fn := fun _ => fun
  | [d] => { results := [.lit (.bool true)], args := [d] }
  | _ => none }
def fnExactHeapOkRow : OpenClaim := { program := "ytcmllambknfleaa", sum := "a59a3e5be9113236baed2e68eee3a425e5f9aa5a726151e993e08fb4e6d9d1e9", func := "loop.example/spool/laws.FnExactHeapOk", spec := "fnExactHeapOk", unfollowed := true, recurses := true, apart := false }
def FnExactHeapOkSaid : Prop := fnExactHeapOkRow.holds Try.pinned (OpenSpec.ofChange fnExactHeapOkSpec)

/-- ITS FALSE NEIGHBOUR: 'it returns false'. Refute it at one input. -/
def fnExactHeapOkWrong : ChangeSpec := { name := "fnExactHeapOk", fn := fun _ => fun
  | [d] => { results := [.lit (.bool false)], args := [d] }
  | _ => none }
def FnExactHeapOkWrongFalsely : Prop := fnExactHeapOkRow.holds Try.pinned (OpenSpec.ofChange fnExactHeapOkWrong)

/-- 'laws.FnExactResolve': WHATEVER THE INPUT: true; the input reads as it did. -/
def fnExactResolveSpec : ChangeSpec := { name := "fnExactResolve", fn := fun _ => fun
  | [d1, d2] => { results := [.lit (.bool true)], args := [d1, d2] }
  | _ => none }
def fnExactResolveRow : OpenClaim := { program := "ytcmllambknfleaa", sum := "a59a3e5be9113236baed2e68eee3a425e5f9aa5a726151e993e08fb4e6d9d1e9", func := "loop.example/spool/laws.FnExactResolve", spec := "fnExactResolve", unfollowed := true, recurses := true, apart := false }
def FnExactResolveSaid : Prop := fnExactResolveRow.holds Try.pinned (OpenSpec.ofChange fnExactResolveSpec)

/-- ITS FALSE NEIGHBOUR: 'it returns false'. Refute it at one input. -/
def fnExactResolveWrong : ChangeSpec := { name := "fnExactResolve", fn := fun _ => fun
  | [d1, d2] => { results := [.lit (.bool false)], args := [d1, d2] }
  | _ => none }
def FnExactResolveWrongFalsely : Prop := fnExactResolveRow.holds Try.pinned (OpenSpec.ofChange fnExactResolveWrong)

/-- 'laws.FnExactNextDue': WHATEVER THE INPUT: true; the input reads as it did. -/
def fnExactNextDueSpec : ChangeSpec := { name := "fnExactNextDue", fn := fun _ => fun
  | [d] => { results := [.lit (.bool true)], args := [d] }
  | _ => none }
def fnExactNextDueRow : OpenClaim := { program := "ytcmllambknfleaa", sum := "a59a3e5be9113236baed2e68eee3a425e5f9aa5a726151e993e08fb4e6d9d1e9", func := "loop.example/spool/laws.FnExactNextDue", spec := "fnExactNextDue", unfollowed := true, recurses := true, apart := false }
def FnExactNextDueSaid : Prop := fnExactNextDueRow.holds Try.pinned (OpenSpec.ofChange fnExactNextDueSpec)

/-- ITS FALSE NEIGHBOUR: 'it returns false'. Refute it at one input. -/
def fnExactNextDueWrong : ChangeSpec := { name := "fnExactNextDue", fn := fun _ => fun
  | [d] => { results := [.lit (.bool false)], args := [d] }
  | _ => none }
def FnExactNextDueWrongFalsely : Prop := fnExactNextDueRow.holds Try.pinned (OpenSpec.ofChange fnExactNextDueWrong)

/-- 'laws.FnExactLive': WHATEVER THE INPUT: true; the input reads as it did. -/
def fnExactLiveSpec : ChangeSpec := { name := "fnExactLive", fn := fun _ => fun
  | [d] => { results := [.lit (.bool true)], args := [d] }
  | _ => none }
def fnExactLiveRow : OpenClaim := { program := "ytcmllambknfleaa", sum := "a59a3e5be9113236baed2e68eee3a425e5f9aa5a726151e993e08fb4e6d9d1e9", func := "loop.example/spool/laws.FnExactLive", spec := "fnExactLive", unfollowed := true, recurses := true, apart := false }
def FnExactLiveSaid : Prop := fnExactLiveRow.holds Try.pinned (OpenSpec.ofChange fnExactLiveSpec)

/-- ITS FALSE NEIGHBOUR: 'it returns false'. Refute it at one input. -/
def fnExactLiveWrong : ChangeSpec := { name := "fnExactLive", fn := fun _ => fun
  | [d] => { results := [.lit (.bool false)], args := [d] }
  | _ => none }
def FnExactLiveWrongFalsely : Prop := fnExactLiveRow.holds Try.pinned (OpenSpec.ofChange fnExactLiveWrong)

/-- 'laws.FnExactCounted': WHATEVER THE INPUT: true; the input reads as it did. -/
def fnExactCountedSpec : ChangeSpec := { name := "fnExactCounted", fn := fun _ => fun
  | [d] => { results := [.lit (.bool true)], args := [d] }
  | _ => none }
def fnExactCountedRow : OpenClaim := { program := "ytcmllambknfleaa", sum := "a59a3e5be9113236baed2e68eee3a425e5f9aa5a726151e993e08fb4e6d9d1e9", func := "loop.example/spool/laws.FnExactCounted", spec := "fnExactCounted", unfollowed := true, recurses := true, apart := false }
def FnExactCountedSaid : Prop := fnExactCountedRow.holds Try.pinned (OpenSpec.ofChange fnExactCountedSpec)

/-- ITS FALSE NEIGHBOUR: 'it returns false'. Refute it at one input. -/
def fnExactCountedWrong : ChangeSpec := { name := "fnExactCounted", fn := fun _ => fun
  | [d] => { results := [.lit (.bool false)], args := [d] }
  | _ => none }
def FnExactCountedWrongFalsely : Prop := fnExactCountedRow.holds Try.pinned (OpenSpec.ofChange fnExactCountedWrong)

/-- 'laws.FnExactReach': WHATEVER THE INPUT: true; the input reads as it did. -/
def fnExactReachSpec : ChangeSpec := { name := "fnExactReach", fn := fun _ => fun
  | [d] => { results := [.lit (.bool true)], args := [d] }
  | _ => none }
def fnExactReachRow : OpenClaim := { program := "ytcmllambknfleaa", sum := "a59a3e5be9113236baed2e68eee3a425e5f9aa5a726151e993e08fb4e6d9d1e9", func := "loop.example/spool/laws.FnExactReach", spec := "fnExactReach", unfollowed := true, recurses := true, apart := false }
def FnExactReachSaid : Prop := fnExactReachRow.holds Try.pinned (OpenSpec.ofChange fnExactReachSpec)

/-- ITS FALSE NEIGHBOUR: 'it returns false'. Refute it at one input. -/
def fnExactReachWrong : ChangeSpec := { name := "fnExactReach", fn := fun _ => fun
  | [d] => { results := [.lit (.bool false)], args := [d] }
  | _ => none }
def FnExactReachWrongFalsely : Prop := fnExactReachRow.holds Try.pinned (OpenSpec.ofChange fnExactReachWrong)

/-- 'laws.FnExactHolds': WHATEVER THE INPUT: true; the input reads as it did. -/
def fnExactHoldsSpec : ChangeSpec := { name := "fnExactHolds", fn := fun _ => fun
  | [d] => { results := [.lit (.bool true)], args := [d] }
  | _ => none }
def fnExactHoldsRow : OpenClaim := { program := "ytcmllambknfleaa", sum := "a59a3e5be9113236baed2e68eee3a425e5f9aa5a726151e993e08fb4e6d9d1e9", func := "loop.example/spool/laws.FnExactHolds", spec := "fnExactHolds", unfollowed := true, recurses := true, apart := false }
def FnExactHoldsSaid : Prop := fnExactHoldsRow.holds Try.pinned (OpenSpec.ofChange fnExactHoldsSpec)

/-- ITS FALSE NEIGHBOUR: 'it returns false'. Refute it at one input. -/
def fnExactHoldsWrong : ChangeSpec := { name := "fnExactHolds", fn := fun _ => fun
  | [d] => { results := [.lit (.bool false)], args := [d] }
  | _ => none }
def FnExactHoldsWrongFalsely : Prop := fnExactHoldsRow.holds Try.pinned (OpenSpec.ofChange fnExactHoldsWrong)

/-- 'laws.FnExactShade': WHATEVER THE INPUT: true; the input reads as it did. -/
def fnExactShadeSpec : ChangeSpec := { name := "fnExactShade", fn := fun _ => fun
  | [d1, d2] => { results := [.lit (.bool true)], args := [d1, d2] }
  | _ => none }
def fnExactShadeRow : OpenClaim := { program := "ytcmllambknfleaa", sum := "a59a3e5be9113236baed2e68eee3a425e5f9aa5a726151e993e08fb4e6d9d1e9", func := "loop.example/spool/laws.FnExactShade", spec := "fnExactShade", unfollowed := true, recurses := true, apart := false }
def FnExactShadeSaid : Prop := fnExactShadeRow.holds Try.pinned (OpenSpec.ofChange fnExactShadeSpec)

/-- ITS FALSE NEIGHBOUR: 'it returns false'. Refute it at one input. -/
def fnExactShadeWrong : ChangeSpec := { name := "fnExactShade", fn := fun _ => fun
  | [d1, d2] => { results := [.lit (.bool false)], args := [d1, d2] }
  | _ => none }
def FnExactShadeWrongFalsely : Prop := fnExactShadeRow.holds Try.pinned (OpenSpec.ofChange fnExactShadeWrong)

/-- 'laws.FnExactLeft': WHATEVER THE INPUT: true; the input reads as it did. -/
def fnExactLeftSpec : ChangeSpec := { name := "fnExactLeft", fn := fun _ => fun
  | [d] => { results := [.lit (.bool true)], args := [d] }
  | _ => none }
def fnExactLeftRow : OpenClaim := { program := "ytcmllambknfleaa", sum := "a59a3e5be9113236baed2e68eee3a425e5f9aa5a726151e993e08fb4e6d9d1e9", func := "loop.example/spool/laws.FnExactLeft", spec := "fnExactLeft", unfollowed := true, recurses := true, apart := false }
def FnExactLeftSaid : Prop := fnExactLeftRow.holds Try.pinned (OpenSpec.ofChange fnExactLeftSpec)

/-- ITS FALSE NEIGHBOUR: 'it returns false'. Refute it at one input. -/
def fnExactLeftWrong : ChangeSpec := { name := "fnExactLeft", fn := fun _ => fun
  | [d] => { results := [.lit (.bool false)], args := [d] }
  | _ => none }
def FnExactLeftWrongFalsely : Prop := fnExactLeftRow.holds Try.pinned (OpenSpec.ofChange fnExactLeftWrong)

/-- 'laws.FnExactSettle': WHATEVER THE INPUT: true; the input reads as it did. -/
def fnExactSettleSpec : ChangeSpec := { name := "fnExactSettle", fn := fun _ => fun
  | [d] => { results := [.lit (.bool true)], args := [d] }
  | _ => none }
def fnExactSettleRow : OpenClaim := { program := "ytcmllambknfleaa", sum := "a59a3e5be9113236baed2e68eee3a425e5f9aa5a726151e993e08fb4e6d9d1e9", func := "loop.example/spool/laws.FnExactSettle", spec := "fnExactSettle", unfollowed := true, recurses := true, apart := false }
def FnExactSettleSaid : Prop := fnExactSettleRow.holds Try.pinned (OpenSpec.ofChange fnExactSettleSpec)

/-- ITS FALSE NEIGHBOUR: 'it returns false'. Refute it at one input. -/
def fnExactSettleWrong : ChangeSpec := { name := "fnExactSettle", fn := fun _ => fun
  | [d] => { results := [.lit (.bool false)], args := [d] }
  | _ => none }
def FnExactSettleWrongFalsely : Prop := fnExactSettleRow.holds Try.pinned (OpenSpec.ofChange fnExactSettleWrong)

/-- 'laws.FnExactRound': WHATEVER THE INPUT: true; the input reads as it did. -/
def fnExactRoundSpec : ChangeSpec := { name := "fnExactRound", fn := fun _ => fun
  | [d] => { results := [.lit (.bool true)], args := [d] }
  | _ => none }
def fnExactRoundRow : OpenClaim := { program := "ytcmllambknfleaa", sum := "a59a3e5be9113236baed2e68eee3a425e5f9aa5a726151e993e08fb4e6d9d1e9", func := "loop.example/spool/laws.FnExactRound", spec := "fnExactRound", unfollowed := true, recurses := true, apart := false }
def FnExactRoundSaid : Prop := fnExactRoundRow.holds Try.pinned (OpenSpec.ofChange fnExactRoundSpec)

/-- ITS FALSE NEIGHBOUR: 'it returns false'. Refute it at one input. -/
def fnExactRoundWrong : ChangeSpec := { name := "fnExactRound", fn := fun _ => fun
  | [d] => { results := [.lit (.bool false)], args := [d] }
  | _ => none }
def FnExactRoundWrongFalsely : Prop := fnExactRoundRow.holds Try.pinned (OpenSpec.ofChange fnExactRoundWrong)

/-- 'laws.FnExactStep': WHATEVER THE INPUT: true; the input reads as it did. -/
def fnExactStepSpec : ChangeSpec := { name := "fnExactStep", fn := fun _ => fun
  | [d1, d2] => { results := [.lit (.bool true)], args := [d1, d2] }
  | _ => none }
def fnExactStepRow : OpenClaim := { program := "ytcmllambknfleaa", sum := "a59a3e5be9113236baed2e68eee3a425e5f9aa5a726151e993e08fb4e6d9d1e9", func := "loop.example/spool/laws.FnExactStep", spec := "fnExactStep", unfollowed := true, recurses := true, apart := false }
def FnExactStepSaid : Prop := fnExactStepRow.holds Try.pinned (OpenSpec.ofChange fnExactStepSpec)

/-- ITS FALSE NEIGHBOUR: 'it returns false'. Refute it at one input. -/
def fnExactStepWrong : ChangeSpec := { name := "fnExactStep", fn := fun _ => fun
  | [d1, d2] => { results := [.lit (.bool false)], args := [d1, d2] }
  | _ => none }
def FnExactStepWrongFalsely : Prop := fnExactStepRow.holds Try.pinned (OpenSpec.ofChange fnExactStepWrong)

/- THE SECOND FORM. 'bulk': how many values and letters a reading holds, each counted each time it is reached (what is shared counts as often as it is met; a slice's spare places count too). A statement '..UptoSaid' is the law's where the arguments, and the package variables that the reading takes, are together of bulk at most 1048576: NARROWER than '..Said'. Prove '..Said' where nothing that the law and all that it calls make is longer than what came in: it says more and counts as full. Else prove '..UptoSaid'. A law counts once. -/
mutual
def uptoBulk {H : Type} : DataW H → Nat
  | .lit (.string bytes) => bytes.length + 1
  | .lit _ => 1
  | .nil => 1
  | .ptr d => uptoBulk d + 1
  | .slice elems spare => uptoBulkAll elems + uptoBulkAll spare + 1
  | .agg parts => uptoBulkAll parts + 1
  | .iface _ d => uptoBulk d + 1
  | .map entries => uptoBulkEntries entries + 1
  | .held _ => 1
def uptoBulkAll {H : Type} : List (DataW H) → Nat
  | [] => 0
  | d :: r => uptoBulk d + uptoBulkAll r
def uptoBulkEntries {H : Type} : List (Lit × DataW H) → Nat
  | [] => 0
  | x :: r => uptoBulkEntry x + uptoBulkEntries r
def uptoBulkEntry {H : Type} : Lit × DataW H → Nat
  | (.string bytes, d) => bytes.length + uptoBulk d + 1
  | (_, d) => uptoBulk d + 1
 end
def uptoSmall : (H : Type) → List (DataW H) → Bool := fun _ ds => decide (uptoBulkAll ds ≤ 1048576)
def OpenSpec.upto (s : _root_.Go.ChangeSpec) : _root_.Go.OpenSpec := { _root_.Go.OpenSpec.ofChange s with cond := some uptoSmall }

/-- 'laws.FnExactConstants', WHERE WHAT IT READS IS OF BULK AT MOST 1048576: true; the input reads as it did. -/
def fnExactConstantsUptoRow : OpenClaim := { program := "ytcmllambknfleaa", sum := "a59a3e5be9113236baed2e68eee3a425e5f9aa5a726151e993e08fb4e6d9d1e9", func := "loop.example/spool/laws.FnExactConstants", spec := "fnExactConstants", apart := false, narrowed := true }
def FnExactConstantsUptoSaid : Prop := fnExactConstantsUptoRow.holds Try.pinned (OpenSpec.upto fnExactConstantsSpec)

/-- 'laws.FnExactPlain', WHERE WHAT IT READS IS OF BULK AT MOST 1048576: true; the input reads as it did. -/
def fnExactPlainUptoRow : OpenClaim := { program := "ytcmllambknfleaa", sum := "a59a3e5be9113236baed2e68eee3a425e5f9aa5a726151e993e08fb4e6d9d1e9", func := "loop.example/spool/laws.FnExactPlain", spec := "fnExactPlain", apart := false, narrowed := true }
def FnExactPlainUptoSaid : Prop := fnExactPlainUptoRow.holds Try.pinned (OpenSpec.upto fnExactPlainSpec)

/-- 'laws.FnExactFresh', WHERE WHAT IT READS IS OF BULK AT MOST 1048576: true; the input reads as it did. -/
def fnExactFreshUptoRow : OpenClaim := { program := "ytcmllambknfleaa", sum := "a59a3e5be9113236baed2e68eee3a425e5f9aa5a726151e993e08fb4e6d9d1e9", func := "loop.example/spool/laws.FnExactFresh", spec := "fnExactFresh", apart := false, narrowed := true }
def FnExactFreshUptoSaid : Prop := fnExactFreshUptoRow.holds Try.pinned (OpenSpec.upto fnExactFreshSpec)

/-- 'laws.FnExactHeapOk', WHERE WHAT IT READS IS OF BULK AT MOST 1048576: true; the input reads as it did. -/
def fnExactHeapOkUptoRow : OpenClaim := { program := "ytcmllambknfleaa", sum := "a59a3e5be9113236baed2e68eee3a425e5f9aa5a726151e993e08fb4e6d9d1e9", func := "loop.example/spool/laws.FnExactHeapOk", spec := "fnExactHeapOk", unfollowed := true, recurses := true, apart := false, narrowed := true }
def FnExactHeapOkUptoSaid : Prop := fnExactHeapOkUptoRow.holds Try.pinned (OpenSpec.upto fnExactHeapOkSpec)

/-- 'laws.FnExactResolve', WHERE WHAT IT READS IS OF BULK AT MOST 1048576: true; the input reads as it did. -/
def fnExactResolveUptoRow : OpenClaim := { program := "ytcmllambknfleaa", sum := "a59a3e5be9113236baed2e68eee3a425e5f9aa5a726151e993e08fb4e6d9d1e9", func := "loop.example/spool/laws.FnExactResolve", spec := "fnExactResolve", unfollowed := true, recurses := true, apart := false, narrowed := true }
def FnExactResolveUptoSaid : Prop := fnExactResolveUptoRow.holds Try.pinned (OpenSpec.upto fnExactResolveSpec)

/-- 'laws.FnExactNextDue', WHERE WHAT IT READS IS OF BULK AT MOST 1048576: true; the input reads as it did. -/
def fnExactNextDueUptoRow : OpenClaim := { program := "ytcmllambknfleaa", sum := "a59a3e5be9113236baed2e68eee3a425e5f9aa5a726151e993e08fb4e6d9d1e9", func := "loop.example/spool/laws.FnExactNextDue", spec := "fnExactNextDue", unfollowed := true, recurses := true, apart := false, narrowed := true }
def FnExactNextDueUptoSaid : Prop := fnExactNextDueUptoRow.holds Try.pinned (OpenSpec.upto fnExactNextDueSpec)

/-- 'laws.FnExactLive', WHERE WHAT IT READS IS OF BULK AT MOST 1048576: true; the input reads as it did. -/
def fnExactLiveUptoRow : OpenClaim := { program := "ytcmllambknfleaa", sum := "a59a3e5be9113236baed2e68eee3a425e5f9aa5a726151e993e08fb4e6d9d1e9", func := "loop.example/spool/laws.FnExactLive", spec := "fnExactLive", unfollowed := true, recurses := true, apart := false, narrowed := true }
def FnExactLiveUptoSaid : Prop := fnExactLiveUptoRow.holds Try.pinned (OpenSpec.upto fnExactLiveSpec)

/-- 'laws.FnExactCounted', WHERE WHAT IT READS IS OF BULK AT MOST 1048576: true; the input reads as it did. -/
def fnExactCountedUptoRow : OpenClaim := { program := "ytcmllambknfleaa", sum := "a59a3e5be9113236baed2e68eee3a425e5f9aa5a726151e993e08fb4e6d9d1e9", func := "loop.example/spool/laws.FnExactCounted", spec := "fnExactCounted", unfollowed := true, recurses := true, apart := false, narrowed := true }
def FnExactCountedUptoSaid : Prop := fnExactCountedUptoRow.holds Try.pinned (OpenSpec.upto fnExactCountedSpec)

/-- 'laws.FnExactReach', WHERE WHAT IT READS IS OF BULK AT MOST 1048576: true; the input reads as it did. -/
def fnExactReachUptoRow : OpenClaim := { program := "ytcmllambknfleaa", sum := "a59a3e5be9113236baed2e68eee3a425e5f9aa5a726151e993e08fb4e6d9d1e9", func := "loop.example/spool/laws.FnExactReach", spec := "fnExactReach", unfollowed := true, recurses := true, apart := false, narrowed := true }
def FnExactReachUptoSaid : Prop := fnExactReachUptoRow.holds Try.pinned (OpenSpec.upto fnExactReachSpec)

/-- 'laws.FnExactHolds', WHERE WHAT IT READS IS OF BULK AT MOST 1048576: true; the input reads as it did. -/
def fnExactHoldsUptoRow : OpenClaim := { program := "ytcmllambknfleaa", sum := "a59a3e5be9113236baed2e68eee3a425e5f9aa5a726151e993e08fb4e6d9d1e9", func := "loop.example/spool/laws.FnExactHolds", spec := "fnExactHolds", unfollowed := true, recurses := true, apart := false, narrowed := true }
def FnExactHoldsUptoSaid : Prop := fnExactHoldsUptoRow.holds Try.pinned (OpenSpec.upto fnExactHoldsSpec)

/-- 'laws.FnExactShade', WHERE WHAT IT READS IS OF BULK AT MOST 1048576: true; the input reads as it did. -/
def fnExactShadeUptoRow : OpenClaim := { program := "ytcmllambknfleaa", sum := "a59a3e5be9113236baed2e68eee3a425e5f9aa5a726151e993e08fb4e6d9d1e9", func := "loop.example/spool/laws.FnExactShade", spec := "fnExactShade", unfollowed := true, recurses := true, apart := false, narrowed := true }
def FnExactShadeUptoSaid : Prop := fnExactShadeUptoRow.holds Try.pinned (OpenSpec.upto fnExactShadeSpec)

/-- 'laws.FnExactLeft', WHERE WHAT IT READS IS OF BULK AT MOST 1048576: true; the input reads as it did. -/
def fnExactLeftUptoRow : OpenClaim := { program := "ytcmllambknfleaa", sum := "a59a3e5be9113236baed2e68eee3a425e5f9aa5a726151e993e08fb4e6d9d1e9", func := "loop.example/spool/laws.FnExactLeft", spec := "fnExactLeft", unfollowed := true, recurses := true, apart := false, narrowed := true }
def FnExactLeftUptoSaid : Prop := fnExactLeftUptoRow.holds Try.pinned (OpenSpec.upto fnExactLeftSpec)

/-- 'laws.FnExactSettle', WHERE WHAT IT READS IS OF BULK AT MOST 1048576: true; the input reads as it did. -/
def fnExactSettleUptoRow : OpenClaim := { program := "ytcmllambknfleaa", sum := "a59a3e5be9113236baed2e68eee3a425e5f9aa5a726151e993e08fb4e6d9d1e9", func := "loop.example/spool/laws.FnExactSettle", spec := "fnExactSettle", unfollowed := true, recurses := true, apart := false, narrowed := true }
def FnExactSettleUptoSaid : Prop := fnExactSettleUptoRow.holds Try.pinned (OpenSpec.upto fnExactSettleSpec)

/-- 'laws.FnExactRound', WHERE WHAT IT READS IS OF BULK AT MOST 1048576: true; the input reads as it did. -/
def fnExactRoundUptoRow : OpenClaim := { program := "ytcmllambknfleaa", sum := "a59a3e5be9113236baed2e68eee3a425e5f9aa5a726151e993e08fb4e6d9d1e9", func := "loop.example/spool/laws.FnExactRound", spec := "fnExactRound", unfollowed := true, recurses := true, apart := false, narrowed := true }
def FnExactRoundUptoSaid : Prop := fnExactRoundUptoRow.holds Try.pinned (OpenSpec.upto fnExactRoundSpec)

/-- 'laws.FnExactStep', WHERE WHAT IT READS IS OF BULK AT MOST 1048576: true; the input reads as it did. -/
def fnExactStepUptoRow : OpenClaim := { program := "ytcmllambknfleaa", sum := "a59a3e5be9113236baed2e68eee3a425e5f9aa5a726151e993e08fb4e6d9d1e9", func := "loop.example/spool/laws.FnExactStep", spec := "fnExactStep", unfollowed := true, recurses := true, apart := false, narrowed := true }
def FnExactStepUptoSaid : Prop := fnExactStepUptoRow.holds Try.pinned (OpenSpec.upto fnExactStepSpec)

end Rows
end Go.Proofs.Ytcmllambknfleaa
