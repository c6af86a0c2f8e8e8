/- Facts on types that the rows use. Conditions: none. -/
import Derived.Test.YtpcakglnklpjoaaRow
set_option linter.unusedVariables false
set_option linter.unusedSimpArgs false
set_option maxRecDepth 100000
namespace Go.Proofs.Ytpcakglnklpjoaa.E
open Go Go.ChangeShapes Go.WideShapes Go.ChangeAt Go.RowKit
theorem und_int : Try.prog.underlying 3 = some (.int .i64) := by kernel_rfl
theorem und_int64 : Try.prog.underlying 2 = some (.int .i64) := by kernel_rfl
theorem cof_int : Try.prog.cellsOf 3 = 1 := by kernel_rfl
theorem cof_int64 : Try.prog.cellsOf 2 = 1 := by kernel_rfl
theorem und_bool : Try.prog.underlying 4 = some .bool := by kernel_rfl
theorem ownknob : ownKnob Try.prog.godebug = none := by kernel_rfl
theorem laid : laidOutB Try.prog = true := by kernel_rfl
section
variable {H : Type} {enc : TypeId × Value → H} {W : World} {spare : Nat → Bool} {held : Bool}
theorem open_i {n : Nat} {cs : List Value} {o : Nat} {y : DataW H × List MemPlace} (h : DataW.trod enc Try.prog W 0 spare held n 3 ((cs.drop o).take (Try.prog.cellsOf 3)) = some y) : ∃ k, cs[o]? = some (.int .i64 k) := by
  obtain ⟨k, e, _⟩ := DataW.trod_int und_int h
  rw [cof_int] at e
  exact ⟨k, take_one e⟩
theorem open_i64 {n : Nat} {cs : List Value} {o : Nat} {y : DataW H × List MemPlace} (h : DataW.trod enc Try.prog W 0 spare held n 2 ((cs.drop o).take (Try.prog.cellsOf 2)) = some y) : ∃ k, cs[o]? = some (.int .i64 k) := by
  obtain ⟨k, e, _⟩ := DataW.trod_int und_int64 h
  rw [cof_int64] at e
  exact ⟨k, take_one e⟩
end
end Go.Proofs.Ytpcakglnklpjoaa.E
