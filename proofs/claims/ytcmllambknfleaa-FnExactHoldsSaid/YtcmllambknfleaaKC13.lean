/- The functions of the program in the engine's form, written by a program out of the loaded translation, and checked against it by the kernel. Conditions: none. -/
import Derived.Test.YtcmllambknfleaaKC12
set_option maxRecDepth 100000
set_option linter.unusedVariables false
namespace Go.Proofs.Ytcmllambknfleaa.E
open Go
/-! laws.markWordS -/
noncomputable def e75 : Env := ⟨Try.prog, [], 34, []⟩
noncomputable def c75 : C :=
  .seq (.reg [
    ⟨some 4, none, .mov (.const (.int .i64 0))⟩]) (.seq (.seq (.reg [
    ⟨some 5, none, .mov (.const (.int .i64 0))⟩]) (.block 0 (.loop (.seq (.seq (.reg [
    ⟨some 6, none, .mov (.tmp 5)⟩,
    ⟨some 7, none, .mov (.tmp 0)⟩,
    ⟨some 8, none, .lenS (.tmp 7)⟩,
    ⟨some 9, none, .bin .lss (.tmp 6) (.tmp 8)⟩]) (.cond (.tmp 9) (.skip) (.exit 0))) (.seq (.block 1 (.seq (.reg [
    ⟨some 12, none, .mov (.tmp 0)⟩,
    ⟨some 13, none, .mov (.tmp 5)⟩,
    ⟨some 14, none, .mov (.tmp 1)⟩,
    ⟨some 15, none, .iaddr 3 (.tmp 12) (.tmp 13)⟩,
    ⟨some 16, none, .faddr 0 (.tmp 15)⟩,
    ⟨none, none, .store 1 (.tmp 16) (.tmp 14)⟩]) (.seq (.reg [
    ⟨some 17, none, .mov (.tmp 1)⟩,
    ⟨some 18, none, .bin .add (.tmp 17) (.const (.int .i64 1))⟩,
    ⟨some 1, none, .mov (.tmp 18)⟩]) (.seq (.reg [
    ⟨some 19, none, .mov (.tmp 0)⟩,
    ⟨some 20, none, .mov (.tmp 5)⟩,
    ⟨some 21, none, .mov (.tmp 1)⟩,
    ⟨some 22, none, .iaddr 3 (.tmp 19) (.tmp 20)⟩,
    ⟨some 23, none, .faddr 1 (.tmp 22)⟩,
    ⟨none, none, .store 1 (.tmp 23) (.tmp 21)⟩]) (.seq (.reg [
    ⟨some 24, none, .mov (.tmp 1)⟩,
    ⟨some 25, none, .bin .add (.tmp 24) (.const (.int .i64 1))⟩,
    ⟨some 1, none, .mov (.tmp 25)⟩]) (.seq (.reg [
    ⟨some 26, none, .mov (.tmp 0)⟩,
    ⟨some 27, none, .mov (.tmp 5)⟩,
    ⟨some 28, none, .mov (.tmp 1)⟩,
    ⟨some 29, none, .iaddr 3 (.tmp 26) (.tmp 27)⟩,
    ⟨some 30, none, .faddr 2 (.tmp 29)⟩,
    ⟨none, none, .store 1 (.tmp 30) (.tmp 28)⟩]) (.reg [
    ⟨some 31, none, .mov (.tmp 1)⟩,
    ⟨some 32, none, .bin .add (.tmp 31) (.const (.int .i64 1))⟩,
    ⟨some 1, none, .mov (.tmp 32)⟩]))))))) (.reg [
    ⟨some 10, none, .mov (.tmp 5)⟩,
    ⟨some 11, none, .bin .add (.tmp 10) (.const (.int .i64 1))⟩,
    ⟨some 5, none, .mov (.tmp 11)⟩])))))) (.seq (.reg [
    ⟨some 33, none, .mov (.tmp 1)⟩,
    ⟨some 4, none, .mov (.tmp 33)⟩]) (.ret)))
theorem t75 : Try.f75.body.bind (trC e75) = some c75 := by kernel_rfl
theorem r75 : Try.f75.results.toList.mapM (trR Try.prog) = some [.tmp 4] := by kernel_rfl
theorem fn75 {args : List Value} {M : Mem} {post : Value → Mem → Prop} (hl : args.length ≤ 34) (h : VC e75 c75 (fnQ [.tmp 4] post) (initS args 34) M) : Fn Try.prog 75 args M post :=
  Fn.of' (E := e75) Try.func75 t75 rfl r75 mixed hl h
/-! laws.heldWordS -/
noncomputable def e78 : Env := ⟨Try.prog, [], 40, []⟩
noncomputable def c78 : C :=
  .seq (.reg [
    ⟨some 4, none, .mov (.const (.int .i64 0))⟩]) (.seq (.seq (.reg [
    ⟨some 5, none, .mov (.const (.int .i64 0))⟩]) (.block 0 (.loop (.seq (.seq (.reg [
    ⟨some 6, none, .mov (.tmp 5)⟩,
    ⟨some 7, none, .mov (.tmp 0)⟩,
    ⟨some 8, none, .lenS (.tmp 7)⟩,
    ⟨some 9, none, .bin .lss (.tmp 6) (.tmp 8)⟩]) (.cond (.tmp 9) (.skip) (.exit 0))) (.seq (.block 1 (.seq (.seq (.reg [
    ⟨some 12, none, .mov (.tmp 0)⟩,
    ⟨some 13, none, .mov (.tmp 5)⟩,
    ⟨some 14, none, .iaddr 3 (.tmp 12) (.tmp 13)⟩,
    ⟨some 15, none, .faddr 0 (.tmp 14)⟩,
    ⟨some 16, none, .load true 1 (.tmp 15)⟩,
    ⟨some 17, none, .mov (.tmp 1)⟩,
    ⟨some 18, none, .bin .neq (.tmp 16) (.tmp 17)⟩]) (.cond (.tmp 18) (.seq (.reg [
    ⟨some 4, none, .mov (.const (.int .i64 (-1)))⟩]) (.ret)) (.skip))) (.seq (.reg [
    ⟨some 19, none, .mov (.tmp 1)⟩,
    ⟨some 20, none, .bin .add (.tmp 19) (.const (.int .i64 1))⟩,
    ⟨some 1, none, .mov (.tmp 20)⟩]) (.seq (.seq (.reg [
    ⟨some 21, none, .mov (.tmp 0)⟩,
    ⟨some 22, none, .mov (.tmp 5)⟩,
    ⟨some 23, none, .iaddr 3 (.tmp 21) (.tmp 22)⟩,
    ⟨some 24, none, .faddr 1 (.tmp 23)⟩,
    ⟨some 25, none, .load true 1 (.tmp 24)⟩,
    ⟨some 26, none, .mov (.tmp 1)⟩,
    ⟨some 27, none, .bin .neq (.tmp 25) (.tmp 26)⟩]) (.cond (.tmp 27) (.seq (.reg [
    ⟨some 4, none, .mov (.const (.int .i64 (-1)))⟩]) (.ret)) (.skip))) (.seq (.reg [
    ⟨some 28, none, .mov (.tmp 1)⟩,
    ⟨some 29, none, .bin .add (.tmp 28) (.const (.int .i64 1))⟩,
    ⟨some 1, none, .mov (.tmp 29)⟩]) (.seq (.seq (.reg [
    ⟨some 30, none, .mov (.tmp 0)⟩,
    ⟨some 31, none, .mov (.tmp 5)⟩,
    ⟨some 32, none, .iaddr 3 (.tmp 30) (.tmp 31)⟩,
    ⟨some 33, none, .faddr 2 (.tmp 32)⟩,
    ⟨some 34, none, .load true 1 (.tmp 33)⟩,
    ⟨some 35, none, .mov (.tmp 1)⟩,
    ⟨some 36, none, .bin .neq (.tmp 34) (.tmp 35)⟩]) (.cond (.tmp 36) (.seq (.reg [
    ⟨some 4, none, .mov (.const (.int .i64 (-1)))⟩]) (.ret)) (.skip))) (.reg [
    ⟨some 37, none, .mov (.tmp 1)⟩,
    ⟨some 38, none, .bin .add (.tmp 37) (.const (.int .i64 1))⟩,
    ⟨some 1, none, .mov (.tmp 38)⟩]))))))) (.reg [
    ⟨some 10, none, .mov (.tmp 5)⟩,
    ⟨some 11, none, .bin .add (.tmp 10) (.const (.int .i64 1))⟩,
    ⟨some 5, none, .mov (.tmp 11)⟩])))))) (.seq (.reg [
    ⟨some 39, none, .mov (.tmp 1)⟩,
    ⟨some 4, none, .mov (.tmp 39)⟩]) (.ret)))
theorem t78 : Try.f78.body.bind (trC e78) = some c78 := by kernel_rfl
theorem r78 : Try.f78.results.toList.mapM (trR Try.prog) = some [.tmp 4] := by kernel_rfl
theorem fn78 {args : List Value} {M : Mem} {post : Value → Mem → Prop} (hl : args.length ≤ 40) (h : VC e78 c78 (fnQ [.tmp 4] post) (initS args 40) M) : Fn Try.prog 78 args M post :=
  Fn.of' (E := e78) Try.func78 t78 rfl r78 mixed hl h
/-! laws.markPairS -/
noncomputable def e131 : Env := ⟨Try.prog, [], 61, []⟩
noncomputable def c131 : C :=
  .seq (.reg [
    ⟨some 4, none, .mov (.const (.int .i64 0))⟩]) (.seq (.seq (.reg [
    ⟨some 5, none, .mov (.const (.int .i64 0))⟩]) (.block 0 (.loop (.seq (.seq (.reg [
    ⟨some 6, none, .mov (.tmp 5)⟩,
    ⟨some 7, none, .mov (.tmp 0)⟩,
    ⟨some 8, none, .lenS (.tmp 7)⟩,
    ⟨some 9, none, .bin .lss (.tmp 6) (.tmp 8)⟩]) (.cond (.tmp 9) (.skip) (.exit 0))) (.seq (.block 1 (.seq (.reg [
    ⟨some 12, none, .mov (.tmp 0)⟩,
    ⟨some 13, none, .mov (.tmp 5)⟩,
    ⟨some 14, none, .mov (.tmp 1)⟩,
    ⟨some 15, none, .iaddr 6 (.tmp 12) (.tmp 13)⟩,
    ⟨some 16, none, .faddr 0 (.tmp 15)⟩,
    ⟨some 17, none, .faddr 0 (.tmp 16)⟩,
    ⟨none, none, .store 1 (.tmp 17) (.tmp 14)⟩]) (.seq (.reg [
    ⟨some 18, none, .mov (.tmp 1)⟩,
    ⟨some 19, none, .bin .add (.tmp 18) (.const (.int .i64 1))⟩,
    ⟨some 1, none, .mov (.tmp 19)⟩]) (.seq (.reg [
    ⟨some 20, none, .mov (.tmp 0)⟩,
    ⟨some 21, none, .mov (.tmp 5)⟩,
    ⟨some 22, none, .mov (.tmp 1)⟩,
    ⟨some 23, none, .iaddr 6 (.tmp 20) (.tmp 21)⟩,
    ⟨some 24, none, .faddr 0 (.tmp 23)⟩,
    ⟨some 25, none, .faddr 1 (.tmp 24)⟩,
    ⟨none, none, .store 1 (.tmp 25) (.tmp 22)⟩]) (.seq (.reg [
    ⟨some 26, none, .mov (.tmp 1)⟩,
    ⟨some 27, none, .bin .add (.tmp 26) (.const (.int .i64 1))⟩,
    ⟨some 1, none, .mov (.tmp 27)⟩]) (.seq (.reg [
    ⟨some 28, none, .mov (.tmp 0)⟩,
    ⟨some 29, none, .mov (.tmp 5)⟩,
    ⟨some 30, none, .mov (.tmp 1)⟩,
    ⟨some 31, none, .iaddr 6 (.tmp 28) (.tmp 29)⟩,
    ⟨some 32, none, .faddr 0 (.tmp 31)⟩,
    ⟨some 33, none, .faddr 2 (.tmp 32)⟩,
    ⟨none, none, .store 1 (.tmp 33) (.tmp 30)⟩]) (.seq (.reg [
    ⟨some 34, none, .mov (.tmp 1)⟩,
    ⟨some 35, none, .bin .add (.tmp 34) (.const (.int .i64 1))⟩,
    ⟨some 1, none, .mov (.tmp 35)⟩]) (.seq (.reg [
    ⟨some 36, none, .mov (.tmp 0)⟩,
    ⟨some 37, none, .mov (.tmp 5)⟩,
    ⟨some 38, none, .mov (.tmp 1)⟩,
    ⟨some 39, none, .iaddr 6 (.tmp 36) (.tmp 37)⟩,
    ⟨some 40, none, .faddr 3 (.tmp 39)⟩,
    ⟨some 41, none, .faddr 0 (.tmp 40)⟩,
    ⟨none, none, .store 1 (.tmp 41) (.tmp 38)⟩]) (.seq (.reg [
    ⟨some 42, none, .mov (.tmp 1)⟩,
    ⟨some 43, none, .bin .add (.tmp 42) (.const (.int .i64 1))⟩,
    ⟨some 1, none, .mov (.tmp 43)⟩]) (.seq (.reg [
    ⟨some 44, none, .mov (.tmp 0)⟩,
    ⟨some 45, none, .mov (.tmp 5)⟩,
    ⟨some 46, none, .mov (.tmp 1)⟩,
    ⟨some 47, none, .iaddr 6 (.tmp 44) (.tmp 45)⟩,
    ⟨some 48, none, .faddr 3 (.tmp 47)⟩,
    ⟨some 49, none, .faddr 1 (.tmp 48)⟩,
    ⟨none, none, .store 1 (.tmp 49) (.tmp 46)⟩]) (.seq (.reg [
    ⟨some 50, none, .mov (.tmp 1)⟩,
    ⟨some 51, none, .bin .add (.tmp 50) (.const (.int .i64 1))⟩,
    ⟨some 1, none, .mov (.tmp 51)⟩]) (.seq (.reg [
    ⟨some 52, none, .mov (.tmp 0)⟩,
    ⟨some 53, none, .mov (.tmp 5)⟩,
    ⟨some 54, none, .mov (.tmp 1)⟩,
    ⟨some 55, none, .iaddr 6 (.tmp 52) (.tmp 53)⟩,
    ⟨some 56, none, .faddr 3 (.tmp 55)⟩,
    ⟨some 57, none, .faddr 2 (.tmp 56)⟩,
    ⟨none, none, .store 1 (.tmp 57) (.tmp 54)⟩]) (.reg [
    ⟨some 58, none, .mov (.tmp 1)⟩,
    ⟨some 59, none, .bin .add (.tmp 58) (.const (.int .i64 1))⟩,
    ⟨some 1, none, .mov (.tmp 59)⟩]))))))))))))) (.reg [
    ⟨some 10, none, .mov (.tmp 5)⟩,
    ⟨some 11, none, .bin .add (.tmp 10) (.const (.int .i64 1))⟩,
    ⟨some 5, none, .mov (.tmp 11)⟩])))))) (.seq (.reg [
    ⟨some 60, none, .mov (.tmp 1)⟩,
    ⟨some 4, none, .mov (.tmp 60)⟩]) (.ret)))
theorem t131 : Try.f131.body.bind (trC e131) = some c131 := by kernel_rfl
theorem r131 : Try.f131.results.toList.mapM (trR Try.prog) = some [.tmp 4] := by kernel_rfl
theorem fn131 {args : List Value} {M : Mem} {post : Value → Mem → Prop} (hl : args.length ≤ 61) (h : VC e131 c131 (fnQ [.tmp 4] post) (initS args 61) M) : Fn Try.prog 131 args M post :=
  Fn.of' (E := e131) Try.func131 t131 rfl r131 mixed hl h
/-! laws.heldPairS -/
noncomputable def e132 : Env := ⟨Try.prog, [], 73, []⟩
noncomputable def c132 : C :=
  .seq (.reg [
    ⟨some 4, none, .mov (.const (.int .i64 0))⟩]) (.seq (.seq (.reg [
    ⟨some 5, none, .mov (.const (.int .i64 0))⟩]) (.block 0 (.loop (.seq (.seq (.reg [
    ⟨some 6, none, .mov (.tmp 5)⟩,
    ⟨some 7, none, .mov (.tmp 0)⟩,
    ⟨some 8, none, .lenS (.tmp 7)⟩,
    ⟨some 9, none, .bin .lss (.tmp 6) (.tmp 8)⟩]) (.cond (.tmp 9) (.skip) (.exit 0))) (.seq (.block 1 (.seq (.seq (.reg [
    ⟨some 12, none, .mov (.tmp 0)⟩,
    ⟨some 13, none, .mov (.tmp 5)⟩,
    ⟨some 14, none, .iaddr 6 (.tmp 12) (.tmp 13)⟩,
    ⟨some 15, none, .faddr 0 (.tmp 14)⟩,
    ⟨some 16, none, .faddr 0 (.tmp 15)⟩,
    ⟨some 17, none, .load true 1 (.tmp 16)⟩,
    ⟨some 18, none, .mov (.tmp 1)⟩,
    ⟨some 19, none, .bin .neq (.tmp 17) (.tmp 18)⟩]) (.cond (.tmp 19) (.seq (.reg [
    ⟨some 4, none, .mov (.const (.int .i64 (-1)))⟩]) (.ret)) (.skip))) (.seq (.reg [
    ⟨some 20, none, .mov (.tmp 1)⟩,
    ⟨some 21, none, .bin .add (.tmp 20) (.const (.int .i64 1))⟩,
    ⟨some 1, none, .mov (.tmp 21)⟩]) (.seq (.seq (.reg [
    ⟨some 22, none, .mov (.tmp 0)⟩,
    ⟨some 23, none, .mov (.tmp 5)⟩,
    ⟨some 24, none, .iaddr 6 (.tmp 22) (.tmp 23)⟩,
    ⟨some 25, none, .faddr 0 (.tmp 24)⟩,
    ⟨some 26, none, .faddr 1 (.tmp 25)⟩,
    ⟨some 27, none, .load true 1 (.tmp 26)⟩,
    ⟨some 28, none, .mov (.tmp 1)⟩,
    ⟨some 29, none, .bin .neq (.tmp 27) (.tmp 28)⟩]) (.cond (.tmp 29) (.seq (.reg [
    ⟨some 4, none, .mov (.const (.int .i64 (-1)))⟩]) (.ret)) (.skip))) (.seq (.reg [
    ⟨some 30, none, .mov (.tmp 1)⟩,
    ⟨some 31, none, .bin .add (.tmp 30) (.const (.int .i64 1))⟩,
    ⟨some 1, none, .mov (.tmp 31)⟩]) (.seq (.seq (.reg [
    ⟨some 32, none, .mov (.tmp 0)⟩,
    ⟨some 33, none, .mov (.tmp 5)⟩,
    ⟨some 34, none, .iaddr 6 (.tmp 32) (.tmp 33)⟩,
    ⟨some 35, none, .faddr 0 (.tmp 34)⟩,
    ⟨some 36, none, .faddr 2 (.tmp 35)⟩,
    ⟨some 37, none, .load true 1 (.tmp 36)⟩,
    ⟨some 38, none, .mov (.tmp 1)⟩,
    ⟨some 39, none, .bin .neq (.tmp 37) (.tmp 38)⟩]) (.cond (.tmp 39) (.seq (.reg [
    ⟨some 4, none, .mov (.const (.int .i64 (-1)))⟩]) (.ret)) (.skip))) (.seq (.reg [
    ⟨some 40, none, .mov (.tmp 1)⟩,
    ⟨some 41, none, .bin .add (.tmp 40) (.const (.int .i64 1))⟩,
    ⟨some 1, none, .mov (.tmp 41)⟩]) (.seq (.seq (.reg [
    ⟨some 42, none, .mov (.tmp 0)⟩,
    ⟨some 43, none, .mov (.tmp 5)⟩,
    ⟨some 44, none, .iaddr 6 (.tmp 42) (.tmp 43)⟩,
    ⟨some 45, none, .faddr 3 (.tmp 44)⟩,
    ⟨some 46, none, .faddr 0 (.tmp 45)⟩,
    ⟨some 47, none, .load true 1 (.tmp 46)⟩,
    ⟨some 48, none, .mov (.tmp 1)⟩,
    ⟨some 49, none, .bin .neq (.tmp 47) (.tmp 48)⟩]) (.cond (.tmp 49) (.seq (.reg [
    ⟨some 4, none, .mov (.const (.int .i64 (-1)))⟩]) (.ret)) (.skip))) (.seq (.reg [
    ⟨some 50, none, .mov (.tmp 1)⟩,
    ⟨some 51, none, .bin .add (.tmp 50) (.const (.int .i64 1))⟩,
    ⟨some 1, none, .mov (.tmp 51)⟩]) (.seq (.seq (.reg [
    ⟨some 52, none, .mov (.tmp 0)⟩,
    ⟨some 53, none, .mov (.tmp 5)⟩,
    ⟨some 54, none, .iaddr 6 (.tmp 52) (.tmp 53)⟩,
    ⟨some 55, none, .faddr 3 (.tmp 54)⟩,
    ⟨some 56, none, .faddr 1 (.tmp 55)⟩,
    ⟨some 57, none, .load true 1 (.tmp 56)⟩,
    ⟨some 58, none, .mov (.tmp 1)⟩,
    ⟨some 59, none, .bin .neq (.tmp 57) (.tmp 58)⟩]) (.cond (.tmp 59) (.seq (.reg [
    ⟨some 4, none, .mov (.const (.int .i64 (-1)))⟩]) (.ret)) (.skip))) (.seq (.reg [
    ⟨some 60, none, .mov (.tmp 1)⟩,
    ⟨some 61, none, .bin .add (.tmp 60) (.const (.int .i64 1))⟩,
    ⟨some 1, none, .mov (.tmp 61)⟩]) (.seq (.seq (.reg [
    ⟨some 62, none, .mov (.tmp 0)⟩,
    ⟨some 63, none, .mov (.tmp 5)⟩,
    ⟨some 64, none, .iaddr 6 (.tmp 62) (.tmp 63)⟩,
    ⟨some 65, none, .faddr 3 (.tmp 64)⟩,
    ⟨some 66, none, .faddr 2 (.tmp 65)⟩,
    ⟨some 67, none, .load true 1 (.tmp 66)⟩,
    ⟨some 68, none, .mov (.tmp 1)⟩,
    ⟨some 69, none, .bin .neq (.tmp 67) (.tmp 68)⟩]) (.cond (.tmp 69) (.seq (.reg [
    ⟨some 4, none, .mov (.const (.int .i64 (-1)))⟩]) (.ret)) (.skip))) (.reg [
    ⟨some 70, none, .mov (.tmp 1)⟩,
    ⟨some 71, none, .bin .add (.tmp 70) (.const (.int .i64 1))⟩,
    ⟨some 1, none, .mov (.tmp 71)⟩]))))))))))))) (.reg [
    ⟨some 10, none, .mov (.tmp 5)⟩,
    ⟨some 11, none, .bin .add (.tmp 10) (.const (.int .i64 1))⟩,
    ⟨some 5, none, .mov (.tmp 11)⟩])))))) (.seq (.reg [
    ⟨some 72, none, .mov (.tmp 1)⟩,
    ⟨some 4, none, .mov (.tmp 72)⟩]) (.ret)))
theorem t132 : Try.f132.body.bind (trC e132) = some c132 := by kernel_rfl
theorem r132 : Try.f132.results.toList.mapM (trR Try.prog) = some [.tmp 4] := by kernel_rfl
theorem fn132 {args : List Value} {M : Mem} {post : Value → Mem → Prop} (hl : args.length ≤ 73) (h : VC e132 c132 (fnQ [.tmp 4] post) (initS args 73) M) : Fn Try.prog 132 args M post :=
  Fn.of' (E := e132) Try.func132 t132 rfl r132 mixed hl h
/-! laws.markCellS -/
noncomputable def e76 : Env := ⟨Try.prog, [], 69, []⟩
noncomputable def c76 : C :=
  .seq (.reg [
    ⟨some 4, none, .mov (.const (.int .i64 0))⟩]) (.seq (.seq (.reg [
    ⟨some 5, none, .mov (.const (.int .i64 0))⟩]) (.block 0 (.loop (.seq (.seq (.reg [
    ⟨some 6, none, .mov (.tmp 5)⟩,
    ⟨some 7, none, .mov (.tmp 0)⟩,
    ⟨some 8, none, .lenS (.tmp 7)⟩,
    ⟨some 9, none, .bin .lss (.tmp 6) (.tmp 8)⟩]) (.cond (.tmp 9) (.skip) (.exit 0))) (.seq (.block 1 (.seq (.reg [
    ⟨some 12, none, .mov (.tmp 0)⟩,
    ⟨some 13, none, .mov (.tmp 5)⟩,
    ⟨some 14, none, .mov (.tmp 1)⟩,
    ⟨some 15, none, .iaddr 8 (.tmp 12) (.tmp 13)⟩,
    ⟨some 16, none, .faddr 0 (.tmp 15)⟩,
    ⟨none, none, .store 1 (.tmp 16) (.tmp 14)⟩]) (.seq (.reg [
    ⟨some 17, none, .mov (.tmp 1)⟩,
    ⟨some 18, none, .bin .add (.tmp 17) (.const (.int .i64 1))⟩,
    ⟨some 1, none, .mov (.tmp 18)⟩]) (.seq (.reg [
    ⟨some 19, none, .mov (.tmp 0)⟩,
    ⟨some 20, none, .mov (.tmp 5)⟩,
    ⟨some 21, none, .mov (.tmp 1)⟩,
    ⟨some 22, none, .iaddr 8 (.tmp 19) (.tmp 20)⟩,
    ⟨some 23, none, .faddr 1 (.tmp 22)⟩,
    ⟨none, none, .store 1 (.tmp 23) (.tmp 21)⟩]) (.seq (.reg [
    ⟨some 24, none, .mov (.tmp 1)⟩,
    ⟨some 25, none, .bin .add (.tmp 24) (.const (.int .i64 1))⟩,
    ⟨some 1, none, .mov (.tmp 25)⟩]) (.seq (.reg [
    ⟨some 26, none, .mov (.tmp 0)⟩,
    ⟨some 27, none, .mov (.tmp 5)⟩,
    ⟨some 28, none, .mov (.tmp 1)⟩,
    ⟨some 29, none, .iaddr 8 (.tmp 26) (.tmp 27)⟩,
    ⟨some 30, none, .faddr 2 (.tmp 29)⟩,
    ⟨none, none, .store 1 (.tmp 30) (.tmp 28)⟩]) (.seq (.reg [
    ⟨some 31, none, .mov (.tmp 1)⟩,
    ⟨some 32, none, .bin .add (.tmp 31) (.const (.int .i64 1))⟩,
    ⟨some 1, none, .mov (.tmp 32)⟩]) (.seq (.reg [
    ⟨some 33, none, .mov (.tmp 0)⟩,
    ⟨some 34, none, .mov (.tmp 5)⟩,
    ⟨some 35, none, .mov (.tmp 1)⟩,
    ⟨some 36, none, .iaddr 8 (.tmp 33) (.tmp 34)⟩,
    ⟨some 37, none, .faddr 3 (.tmp 36)⟩,
    ⟨none, none, .store 1 (.tmp 37) (.tmp 35)⟩]) (.seq (.reg [
    ⟨some 38, none, .mov (.tmp 1)⟩,
    ⟨some 39, none, .bin .add (.tmp 38) (.const (.int .i64 1))⟩,
    ⟨some 1, none, .mov (.tmp 39)⟩]) (.seq (.reg [
    ⟨some 40, none, .mov (.tmp 0)⟩,
    ⟨some 41, none, .mov (.tmp 5)⟩,
    ⟨some 42, none, .mov (.tmp 1)⟩,
    ⟨some 43, none, .iaddr 8 (.tmp 40) (.tmp 41)⟩,
    ⟨some 44, none, .faddr 4 (.tmp 43)⟩,
    ⟨none, none, .store 1 (.tmp 44) (.tmp 42)⟩]) (.seq (.reg [
    ⟨some 45, none, .mov (.tmp 1)⟩,
    ⟨some 46, none, .bin .add (.tmp 45) (.const (.int .i64 1))⟩,
    ⟨some 1, none, .mov (.tmp 46)⟩]) (.seq (.reg [
    ⟨some 47, none, .mov (.tmp 0)⟩,
    ⟨some 48, none, .mov (.tmp 5)⟩,
    ⟨some 49, none, .mov (.tmp 1)⟩,
    ⟨some 50, none, .iaddr 8 (.tmp 47) (.tmp 48)⟩,
    ⟨some 51, none, .faddr 5 (.tmp 50)⟩,
    ⟨none, none, .store 1 (.tmp 51) (.tmp 49)⟩]) (.seq (.reg [
    ⟨some 52, none, .mov (.tmp 1)⟩,
    ⟨some 53, none, .bin .add (.tmp 52) (.const (.int .i64 1))⟩,
    ⟨some 1, none, .mov (.tmp 53)⟩]) (.seq (.reg [
    ⟨some 54, none, .mov (.tmp 0)⟩,
    ⟨some 55, none, .mov (.tmp 5)⟩,
    ⟨some 56, none, .mov (.tmp 1)⟩,
    ⟨some 57, none, .iaddr 8 (.tmp 54) (.tmp 55)⟩,
    ⟨some 58, none, .faddr 6 (.tmp 57)⟩,
    ⟨none, none, .store 1 (.tmp 58) (.tmp 56)⟩]) (.seq (.reg [
    ⟨some 59, none, .mov (.tmp 1)⟩,
    ⟨some 60, none, .bin .add (.tmp 59) (.const (.int .i64 1))⟩,
    ⟨some 1, none, .mov (.tmp 60)⟩]) (.reg [
    ⟨some 61, none, .mov (.tmp 0)⟩,
    ⟨some 62, none, .mov (.tmp 5)⟩,
    ⟨some 63, none, .iaddr 8 (.tmp 61) (.tmp 62)⟩,
    ⟨some 64, none, .faddr 7 (.tmp 63)⟩,
    ⟨some 65, none, .load true 1 (.tmp 64)⟩,
    ⟨some 66, none, .mov (.tmp 1)⟩,
    ⟨some 67, none, .call 131 [.tmp 65, .tmp 66]⟩,
    ⟨some 1, none, .mov (.tmp 67)⟩])))))))))))))))) (.reg [
    ⟨some 10, none, .mov (.tmp 5)⟩,
    ⟨some 11, none, .bin .add (.tmp 10) (.const (.int .i64 1))⟩,
    ⟨some 5, none, .mov (.tmp 11)⟩])))))) (.seq (.reg [
    ⟨some 68, none, .mov (.tmp 1)⟩,
    ⟨some 4, none, .mov (.tmp 68)⟩]) (.ret)))
theorem t76 : Try.f76.body.bind (trC e76) = some c76 := by kernel_rfl
theorem r76 : Try.f76.results.toList.mapM (trR Try.prog) = some [.tmp 4] := by kernel_rfl
theorem fn76 {args : List Value} {M : Mem} {post : Value → Mem → Prop} (hl : args.length ≤ 69) (h : VC e76 c76 (fnQ [.tmp 4] post) (initS args 69) M) : Fn Try.prog 76 args M post :=
  Fn.of' (E := e76) Try.func76 t76 rfl r76 mixed hl h
/-! laws.heldCellS -/
noncomputable def e79 : Env := ⟨Try.prog, [], 85, []⟩
noncomputable def c79 : C :=
  .seq (.reg [
    ⟨some 4, none, .mov (.const (.int .i64 0))⟩]) (.seq (.seq (.reg [
    ⟨some 5, none, .mov (.const (.int .i64 0))⟩]) (.block 0 (.loop (.seq (.seq (.reg [
    ⟨some 6, none, .mov (.tmp 5)⟩,
    ⟨some 7, none, .mov (.tmp 0)⟩,
    ⟨some 8, none, .lenS (.tmp 7)⟩,
    ⟨some 9, none, .bin .lss (.tmp 6) (.tmp 8)⟩]) (.cond (.tmp 9) (.skip) (.exit 0))) (.seq (.block 1 (.seq (.seq (.reg [
    ⟨some 12, none, .mov (.tmp 0)⟩,
    ⟨some 13, none, .mov (.tmp 5)⟩,
    ⟨some 14, none, .iaddr 8 (.tmp 12) (.tmp 13)⟩,
    ⟨some 15, none, .faddr 0 (.tmp 14)⟩,
    ⟨some 16, none, .load true 1 (.tmp 15)⟩,
    ⟨some 17, none, .mov (.tmp 1)⟩,
    ⟨some 18, none, .bin .neq (.tmp 16) (.tmp 17)⟩]) (.cond (.tmp 18) (.seq (.reg [
    ⟨some 4, none, .mov (.const (.int .i64 (-1)))⟩]) (.ret)) (.skip))) (.seq (.reg [
    ⟨some 19, none, .mov (.tmp 1)⟩,
    ⟨some 20, none, .bin .add (.tmp 19) (.const (.int .i64 1))⟩,
    ⟨some 1, none, .mov (.tmp 20)⟩]) (.seq (.seq (.reg [
    ⟨some 21, none, .mov (.tmp 0)⟩,
    ⟨some 22, none, .mov (.tmp 5)⟩,
    ⟨some 23, none, .iaddr 8 (.tmp 21) (.tmp 22)⟩,
    ⟨some 24, none, .faddr 1 (.tmp 23)⟩,
    ⟨some 25, none, .load true 1 (.tmp 24)⟩,
    ⟨some 26, none, .mov (.tmp 1)⟩,
    ⟨some 27, none, .bin .neq (.tmp 25) (.tmp 26)⟩]) (.cond (.tmp 27) (.seq (.reg [
    ⟨some 4, none, .mov (.const (.int .i64 (-1)))⟩]) (.ret)) (.skip))) (.seq (.reg [
    ⟨some 28, none, .mov (.tmp 1)⟩,
    ⟨some 29, none, .bin .add (.tmp 28) (.const (.int .i64 1))⟩,
    ⟨some 1, none, .mov (.tmp 29)⟩]) (.seq (.seq (.reg [
    ⟨some 30, none, .mov (.tmp 0)⟩,
    ⟨some 31, none, .mov (.tmp 5)⟩,
    ⟨some 32, none, .iaddr 8 (.tmp 30) (.tmp 31)⟩,
    ⟨some 33, none, .faddr 2 (.tmp 32)⟩,
    ⟨some 34, none, .load true 1 (.tmp 33)⟩,
    ⟨some 35, none, .mov (.tmp 1)⟩,
    ⟨some 36, none, .bin .neq (.tmp 34) (.tmp 35)⟩]) (.cond (.tmp 36) (.seq (.reg [
    ⟨some 4, none, .mov (.const (.int .i64 (-1)))⟩]) (.ret)) (.skip))) (.seq (.reg [
    ⟨some 37, none, .mov (.tmp 1)⟩,
    ⟨some 38, none, .bin .add (.tmp 37) (.const (.int .i64 1))⟩,
    ⟨some 1, none, .mov (.tmp 38)⟩]) (.seq (.seq (.reg [
    ⟨some 39, none, .mov (.tmp 0)⟩,
    ⟨some 40, none, .mov (.tmp 5)⟩,
    ⟨some 41, none, .iaddr 8 (.tmp 39) (.tmp 40)⟩,
    ⟨some 42, none, .faddr 3 (.tmp 41)⟩,
    ⟨some 43, none, .load true 1 (.tmp 42)⟩,
    ⟨some 44, none, .mov (.tmp 1)⟩,
    ⟨some 45, none, .bin .neq (.tmp 43) (.tmp 44)⟩]) (.cond (.tmp 45) (.seq (.reg [
    ⟨some 4, none, .mov (.const (.int .i64 (-1)))⟩]) (.ret)) (.skip))) (.seq (.reg [
    ⟨some 46, none, .mov (.tmp 1)⟩,
    ⟨some 47, none, .bin .add (.tmp 46) (.const (.int .i64 1))⟩,
    ⟨some 1, none, .mov (.tmp 47)⟩]) (.seq (.seq (.reg [
    ⟨some 48, none, .mov (.tmp 0)⟩,
    ⟨some 49, none, .mov (.tmp 5)⟩,
    ⟨some 50, none, .iaddr 8 (.tmp 48) (.tmp 49)⟩,
    ⟨some 51, none, .faddr 4 (.tmp 50)⟩,
    ⟨some 52, none, .load true 1 (.tmp 51)⟩,
    ⟨some 53, none, .mov (.tmp 1)⟩,
    ⟨some 54, none, .bin .neq (.tmp 52) (.tmp 53)⟩]) (.cond (.tmp 54) (.seq (.reg [
    ⟨some 4, none, .mov (.const (.int .i64 (-1)))⟩]) (.ret)) (.skip))) (.seq (.reg [
    ⟨some 55, none, .mov (.tmp 1)⟩,
    ⟨some 56, none, .bin .add (.tmp 55) (.const (.int .i64 1))⟩,
    ⟨some 1, none, .mov (.tmp 56)⟩]) (.seq (.seq (.reg [
    ⟨some 57, none, .mov (.tmp 0)⟩,
    ⟨some 58, none, .mov (.tmp 5)⟩,
    ⟨some 59, none, .iaddr 8 (.tmp 57) (.tmp 58)⟩,
    ⟨some 60, none, .faddr 5 (.tmp 59)⟩,
    ⟨some 61, none, .load true 1 (.tmp 60)⟩,
    ⟨some 62, none, .mov (.tmp 1)⟩,
    ⟨some 63, none, .bin .neq (.tmp 61) (.tmp 62)⟩]) (.cond (.tmp 63) (.seq (.reg [
    ⟨some 4, none, .mov (.const (.int .i64 (-1)))⟩]) (.ret)) (.skip))) (.seq (.reg [
    ⟨some 64, none, .mov (.tmp 1)⟩,
    ⟨some 65, none, .bin .add (.tmp 64) (.const (.int .i64 1))⟩,
    ⟨some 1, none, .mov (.tmp 65)⟩]) (.seq (.seq (.reg [
    ⟨some 66, none, .mov (.tmp 0)⟩,
    ⟨some 67, none, .mov (.tmp 5)⟩,
    ⟨some 68, none, .iaddr 8 (.tmp 66) (.tmp 67)⟩,
    ⟨some 69, none, .faddr 6 (.tmp 68)⟩,
    ⟨some 70, none, .load true 1 (.tmp 69)⟩,
    ⟨some 71, none, .mov (.tmp 1)⟩,
    ⟨some 72, none, .bin .neq (.tmp 70) (.tmp 71)⟩]) (.cond (.tmp 72) (.seq (.reg [
    ⟨some 4, none, .mov (.const (.int .i64 (-1)))⟩]) (.ret)) (.skip))) (.seq (.reg [
    ⟨some 73, none, .mov (.tmp 1)⟩,
    ⟨some 74, none, .bin .add (.tmp 73) (.const (.int .i64 1))⟩,
    ⟨some 1, none, .mov (.tmp 74)⟩]) (.seq (.reg [
    ⟨some 75, none, .mov (.tmp 0)⟩,
    ⟨some 76, none, .mov (.tmp 5)⟩,
    ⟨some 77, none, .iaddr 8 (.tmp 75) (.tmp 76)⟩,
    ⟨some 78, none, .faddr 7 (.tmp 77)⟩,
    ⟨some 79, none, .load true 1 (.tmp 78)⟩,
    ⟨some 80, none, .mov (.tmp 1)⟩,
    ⟨some 81, none, .call 132 [.tmp 79, .tmp 80]⟩,
    ⟨some 1, none, .mov (.tmp 81)⟩]) (.seq (.reg [
    ⟨some 82, none, .mov (.tmp 1)⟩,
    ⟨some 83, none, .bin .lss (.tmp 82) (.const (.int .i64 0))⟩]) (.cond (.tmp 83) (.seq (.reg [
    ⟨some 4, none, .mov (.const (.int .i64 (-1)))⟩]) (.ret)) (.skip))))))))))))))))))) (.reg [
    ⟨some 10, none, .mov (.tmp 5)⟩,
    ⟨some 11, none, .bin .add (.tmp 10) (.const (.int .i64 1))⟩,
    ⟨some 5, none, .mov (.tmp 11)⟩])))))) (.seq (.reg [
    ⟨some 84, none, .mov (.tmp 1)⟩,
    ⟨some 4, none, .mov (.tmp 84)⟩]) (.ret)))
theorem t79 : Try.f79.body.bind (trC e79) = some c79 := by kernel_rfl
theorem r79 : Try.f79.results.toList.mapM (trR Try.prog) = some [.tmp 4] := by kernel_rfl
theorem fn79 {args : List Value} {M : Mem} {post : Value → Mem → Prop} (hl : args.length ≤ 85) (h : VC e79 c79 (fnQ [.tmp 4] post) (initS args 85) M) : Fn Try.prog 79 args M post :=
  Fn.of' (E := e79) Try.func79 t79 rfl r79 mixed hl h
/-! laws.markIntS -/
noncomputable def e77 : Env := ⟨Try.prog, [], 19, []⟩
noncomputable def c77 : C :=
  .seq (.reg [
    ⟨some 4, none, .mov (.const (.int .i64 0))⟩]) (.seq (.seq (.reg [
    ⟨some 5, none, .mov (.const (.int .i64 0))⟩]) (.block 0 (.loop (.seq (.seq (.reg [
    ⟨some 6, none, .mov (.tmp 5)⟩,
    ⟨some 7, none, .mov (.tmp 0)⟩,
    ⟨some 8, none, .lenS (.tmp 7)⟩,
    ⟨some 9, none, .bin .lss (.tmp 6) (.tmp 8)⟩]) (.cond (.tmp 9) (.skip) (.exit 0))) (.seq (.block 1 (.seq (.reg [
    ⟨some 12, none, .mov (.tmp 0)⟩,
    ⟨some 13, none, .mov (.tmp 5)⟩,
    ⟨some 14, none, .mov (.tmp 1)⟩,
    ⟨some 15, none, .iaddr 1 (.tmp 12) (.tmp 13)⟩,
    ⟨none, none, .store 1 (.tmp 15) (.tmp 14)⟩]) (.reg [
    ⟨some 16, none, .mov (.tmp 1)⟩,
    ⟨some 17, none, .bin .add (.tmp 16) (.const (.int .i64 1))⟩,
    ⟨some 1, none, .mov (.tmp 17)⟩]))) (.reg [
    ⟨some 10, none, .mov (.tmp 5)⟩,
    ⟨some 11, none, .bin .add (.tmp 10) (.const (.int .i64 1))⟩,
    ⟨some 5, none, .mov (.tmp 11)⟩])))))) (.seq (.reg [
    ⟨some 18, none, .mov (.tmp 1)⟩,
    ⟨some 4, none, .mov (.tmp 18)⟩]) (.ret)))
theorem t77 : Try.f77.body.bind (trC e77) = some c77 := by kernel_rfl
theorem r77 : Try.f77.results.toList.mapM (trR Try.prog) = some [.tmp 4] := by kernel_rfl
theorem fn77 {args : List Value} {M : Mem} {post : Value → Mem → Prop} (hl : args.length ≤ 19) (h : VC e77 c77 (fnQ [.tmp 4] post) (initS args 19) M) : Fn Try.prog 77 args M post :=
  Fn.of' (E := e77) Try.func77 t77 rfl r77 mixed hl h
/-! laws.heldIntS -/
noncomputable def e80 : Env := ⟨Try.prog, [], 21, []⟩
noncomputable def c80 : C :=
  .seq (.reg [
    ⟨some 4, none, .mov (.const (.int .i64 0))⟩]) (.seq (.seq (.reg [
    ⟨some 5, none, .mov (.const (.int .i64 0))⟩]) (.block 0 (.loop (.seq (.seq (.reg [
    ⟨some 6, none, .mov (.tmp 5)⟩,
    ⟨some 7, none, .mov (.tmp 0)⟩,
    ⟨some 8, none, .lenS (.tmp 7)⟩,
    ⟨some 9, none, .bin .lss (.tmp 6) (.tmp 8)⟩]) (.cond (.tmp 9) (.skip) (.exit 0))) (.seq (.block 1 (.seq (.seq (.reg [
    ⟨some 12, none, .mov (.tmp 0)⟩,
    ⟨some 13, none, .mov (.tmp 5)⟩,
    ⟨some 14, none, .iaddr 1 (.tmp 12) (.tmp 13)⟩,
    ⟨some 15, none, .load true 1 (.tmp 14)⟩,
    ⟨some 16, none, .mov (.tmp 1)⟩,
    ⟨some 17, none, .bin .neq (.tmp 15) (.tmp 16)⟩]) (.cond (.tmp 17) (.seq (.reg [
    ⟨some 4, none, .mov (.const (.int .i64 (-1)))⟩]) (.ret)) (.skip))) (.reg [
    ⟨some 18, none, .mov (.tmp 1)⟩,
    ⟨some 19, none, .bin .add (.tmp 18) (.const (.int .i64 1))⟩,
    ⟨some 1, none, .mov (.tmp 19)⟩]))) (.reg [
    ⟨some 10, none, .mov (.tmp 5)⟩,
    ⟨some 11, none, .bin .add (.tmp 10) (.const (.int .i64 1))⟩,
    ⟨some 5, none, .mov (.tmp 11)⟩])))))) (.seq (.reg [
    ⟨some 20, none, .mov (.tmp 1)⟩,
    ⟨some 4, none, .mov (.tmp 20)⟩]) (.ret)))
theorem t80 : Try.f80.body.bind (trC e80) = some c80 := by kernel_rfl
theorem r80 : Try.f80.results.toList.mapM (trR Try.prog) = some [.tmp 4] := by kernel_rfl
theorem fn80 {args : List Value} {M : Mem} {post : Value → Mem → Prop} (hl : args.length ≤ 21) (h : VC e80 c80 (fnQ [.tmp 4] post) (initS args 21) M) : Fn Try.prog 80 args M post :=
  Fn.of' (E := e80) Try.func80 t80 rfl r80 mixed hl h
/-! laws.markHeap -/
noncomputable def e28 : Env := ⟨Try.prog, [2], 18, []⟩
noncomputable def c28 : C :=
  .seq (.reg [
    ⟨some 2, none, .box true (.tmp 0)⟩,
    ⟨some 4, none, .mov (.const (.int .i64 0))⟩]) (.seq (.reg [
    ⟨some 5, none, .faddr 3 (.tmp 2)⟩,
    ⟨some 6, none, .load true 1 (.tmp 5)⟩,
    ⟨some 7, none, .mov (.tmp 1)⟩,
    ⟨some 8, none, .call 75 [.tmp 6, .tmp 7]⟩,
    ⟨some 1, none, .mov (.tmp 8)⟩]) (.seq (.reg [
    ⟨some 9, none, .faddr 4 (.tmp 2)⟩,
    ⟨some 10, none, .load true 1 (.tmp 9)⟩,
    ⟨some 11, none, .mov (.tmp 1)⟩,
    ⟨some 12, none, .call 76 [.tmp 10, .tmp 11]⟩,
    ⟨some 1, none, .mov (.tmp 12)⟩]) (.seq (.reg [
    ⟨some 13, none, .faddr 8 (.tmp 2)⟩,
    ⟨some 14, none, .load true 1 (.tmp 13)⟩,
    ⟨some 15, none, .mov (.tmp 1)⟩,
    ⟨some 16, none, .call 77 [.tmp 14, .tmp 15]⟩,
    ⟨some 1, none, .mov (.tmp 16)⟩]) (.seq (.reg [
    ⟨some 17, none, .mov (.tmp 1)⟩,
    ⟨some 4, none, .mov (.tmp 17)⟩]) (.ret)))))
theorem t28 : Try.f28.body.bind (trC e28) = some c28 := by kernel_rfl
theorem r28 : Try.f28.results.toList.mapM (trR Try.prog) = some [.tmp 4] := by kernel_rfl
theorem fn28 {args : List Value} {M : Mem} {post : Value → Mem → Prop} (hl : args.length ≤ 18) (h : VC e28 c28 (fnQ [.tmp 4] post) (initS args 18) M) : Fn Try.prog 28 args M post :=
  Fn.of' (E := e28) Try.func28 t28 rfl r28 mixed hl h
/-! laws.heldHeap -/
noncomputable def e29 : Env := ⟨Try.prog, [2], 24, []⟩
noncomputable def c29 : C :=
  .seq (.reg [
    ⟨some 2, none, .box true (.tmp 0)⟩,
    ⟨some 4, none, .mov (.const (.int .i64 0))⟩]) (.seq (.reg [
    ⟨some 5, none, .faddr 3 (.tmp 2)⟩,
    ⟨some 6, none, .load true 1 (.tmp 5)⟩,
    ⟨some 7, none, .mov (.tmp 1)⟩,
    ⟨some 8, none, .call 78 [.tmp 6, .tmp 7]⟩,
    ⟨some 1, none, .mov (.tmp 8)⟩]) (.seq (.seq (.reg [
    ⟨some 9, none, .mov (.tmp 1)⟩,
    ⟨some 10, none, .bin .lss (.tmp 9) (.const (.int .i64 0))⟩]) (.cond (.tmp 10) (.seq (.reg [
    ⟨some 4, none, .mov (.const (.int .i64 (-1)))⟩]) (.ret)) (.skip))) (.seq (.reg [
    ⟨some 11, none, .faddr 4 (.tmp 2)⟩,
    ⟨some 12, none, .load true 1 (.tmp 11)⟩,
    ⟨some 13, none, .mov (.tmp 1)⟩,
    ⟨some 14, none, .call 79 [.tmp 12, .tmp 13]⟩,
    ⟨some 1, none, .mov (.tmp 14)⟩]) (.seq (.seq (.reg [
    ⟨some 15, none, .mov (.tmp 1)⟩,
    ⟨some 16, none, .bin .lss (.tmp 15) (.const (.int .i64 0))⟩]) (.cond (.tmp 16) (.seq (.reg [
    ⟨some 4, none, .mov (.const (.int .i64 (-1)))⟩]) (.ret)) (.skip))) (.seq (.reg [
    ⟨some 17, none, .faddr 8 (.tmp 2)⟩,
    ⟨some 18, none, .load true 1 (.tmp 17)⟩,
    ⟨some 19, none, .mov (.tmp 1)⟩,
    ⟨some 20, none, .call 80 [.tmp 18, .tmp 19]⟩,
    ⟨some 1, none, .mov (.tmp 20)⟩]) (.seq (.seq (.reg [
    ⟨some 21, none, .mov (.tmp 1)⟩,
    ⟨some 22, none, .bin .lss (.tmp 21) (.const (.int .i64 0))⟩]) (.cond (.tmp 22) (.seq (.reg [
    ⟨some 4, none, .mov (.const (.int .i64 (-1)))⟩]) (.ret)) (.skip))) (.seq (.reg [
    ⟨some 23, none, .mov (.tmp 1)⟩,
    ⟨some 4, none, .mov (.tmp 23)⟩]) (.ret))))))))
theorem t29 : Try.f29.body.bind (trC e29) = some c29 := by kernel_rfl
theorem r29 : Try.f29.results.toList.mapM (trR Try.prog) = some [.tmp 4] := by kernel_rfl
theorem fn29 {args : List Value} {M : Mem} {post : Value → Mem → Prop} (hl : args.length ≤ 24) (h : VC e29 c29 (fnQ [.tmp 4] post) (initS args 24) M) : Fn Try.prog 29 args M post :=
  Fn.of' (E := e29) Try.func29 t29 rfl r29 mixed hl h
/-! laws.markBoolS -/
noncomputable def e47 : Env := ⟨Try.prog, [], 21, []⟩
noncomputable def c47 : C :=
  .seq (.reg [
    ⟨some 4, none, .mov (.const (.int .i64 0))⟩]) (.seq (.seq (.reg [
    ⟨some 5, none, .mov (.const (.int .i64 0))⟩]) (.block 0 (.loop (.seq (.seq (.reg [
    ⟨some 6, none, .mov (.tmp 5)⟩,
    ⟨some 7, none, .mov (.tmp 0)⟩,
    ⟨some 8, none, .lenS (.tmp 7)⟩,
    ⟨some 9, none, .bin .lss (.tmp 6) (.tmp 8)⟩]) (.cond (.tmp 9) (.skip) (.exit 0))) (.seq (.block 1 (.seq (.reg [
    ⟨some 12, none, .mov (.tmp 0)⟩,
    ⟨some 13, none, .mov (.tmp 5)⟩,
    ⟨some 14, none, .mov (.tmp 1)⟩,
    ⟨some 15, none, .bin .rem (.tmp 14) (.const (.int .i64 3))⟩,
    ⟨some 16, none, .bin .eql (.tmp 15) (.const (.int .i64 0))⟩,
    ⟨some 17, none, .iaddr 1 (.tmp 12) (.tmp 13)⟩,
    ⟨none, none, .store 1 (.tmp 17) (.tmp 16)⟩]) (.reg [
    ⟨some 18, none, .mov (.tmp 1)⟩,
    ⟨some 19, none, .bin .add (.tmp 18) (.const (.int .i64 1))⟩,
    ⟨some 1, none, .mov (.tmp 19)⟩]))) (.reg [
    ⟨some 10, none, .mov (.tmp 5)⟩,
    ⟨some 11, none, .bin .add (.tmp 10) (.const (.int .i64 1))⟩,
    ⟨some 5, none, .mov (.tmp 11)⟩])))))) (.seq (.reg [
    ⟨some 20, none, .mov (.tmp 1)⟩,
    ⟨some 4, none, .mov (.tmp 20)⟩]) (.ret)))
theorem t47 : Try.f47.body.bind (trC e47) = some c47 := by kernel_rfl
theorem r47 : Try.f47.results.toList.mapM (trR Try.prog) = some [.tmp 4] := by kernel_rfl
theorem fn47 {args : List Value} {M : Mem} {post : Value → Mem → Prop} (hl : args.length ≤ 21) (h : VC e47 c47 (fnQ [.tmp 4] post) (initS args 21) M) : Fn Try.prog 47 args M post :=
  Fn.of' (E := e47) Try.func47 t47 rfl r47 mixed hl h
/-! laws.heldBoolS -/
noncomputable def e48 : Env := ⟨Try.prog, [], 23, []⟩
noncomputable def c48 : C :=
  .seq (.reg [
    ⟨some 4, none, .mov (.const (.int .i64 0))⟩]) (.seq (.seq (.reg [
    ⟨some 5, none, .mov (.const (.int .i64 0))⟩]) (.block 0 (.loop (.seq (.seq (.reg [
    ⟨some 6, none, .mov (.tmp 5)⟩,
    ⟨some 7, none, .mov (.tmp 0)⟩,
    ⟨some 8, none, .lenS (.tmp 7)⟩,
    ⟨some 9, none, .bin .lss (.tmp 6) (.tmp 8)⟩]) (.cond (.tmp 9) (.skip) (.exit 0))) (.seq (.block 1 (.seq (.seq (.reg [
    ⟨some 12, none, .mov (.tmp 0)⟩,
    ⟨some 13, none, .mov (.tmp 5)⟩,
    ⟨some 14, none, .iaddr 1 (.tmp 12) (.tmp 13)⟩,
    ⟨some 15, none, .load true 1 (.tmp 14)⟩,
    ⟨some 16, none, .mov (.tmp 1)⟩,
    ⟨some 17, none, .bin .rem (.tmp 16) (.const (.int .i64 3))⟩,
    ⟨some 18, none, .bin .eql (.tmp 17) (.const (.int .i64 0))⟩,
    ⟨some 19, none, .eqB true (.tmp 15) (.tmp 18)⟩]) (.cond (.tmp 19) (.seq (.reg [
    ⟨some 4, none, .mov (.const (.int .i64 (-1)))⟩]) (.ret)) (.skip))) (.reg [
    ⟨some 20, none, .mov (.tmp 1)⟩,
    ⟨some 21, none, .bin .add (.tmp 20) (.const (.int .i64 1))⟩,
    ⟨some 1, none, .mov (.tmp 21)⟩]))) (.reg [
    ⟨some 10, none, .mov (.tmp 5)⟩,
    ⟨some 11, none, .bin .add (.tmp 10) (.const (.int .i64 1))⟩,
    ⟨some 5, none, .mov (.tmp 11)⟩])))))) (.seq (.reg [
    ⟨some 22, none, .mov (.tmp 1)⟩,
    ⟨some 4, none, .mov (.tmp 22)⟩]) (.ret)))
theorem t48 : Try.f48.body.bind (trC e48) = some c48 := by kernel_rfl
theorem r48 : Try.f48.results.toList.mapM (trR Try.prog) = some [.tmp 4] := by kernel_rfl
theorem fn48 {args : List Value} {M : Mem} {post : Value → Mem → Prop} (hl : args.length ≤ 23) (h : VC e48 c48 (fnQ [.tmp 4] post) (initS args 23) M) : Fn Try.prog 48 args M post :=
  Fn.of' (E := e48) Try.func48 t48 rfl r48 mixed hl h
/-! laws.markActS -/
noncomputable def e23 : Env := ⟨Try.prog, [], 48, []⟩
noncomputable def c23 : C :=
  .seq (.reg [
    ⟨some 4, none, .mov (.const (.int .i64 0))⟩]) (.seq (.seq (.reg [
    ⟨some 5, none, .mov (.const (.int .i64 0))⟩]) (.block 0 (.loop (.seq (.seq (.reg [
    ⟨some 6, none, .mov (.tmp 5)⟩,
    ⟨some 7, none, .mov (.tmp 0)⟩,
    ⟨some 8, none, .lenS (.tmp 7)⟩,
    ⟨some 9, none, .bin .lss (.tmp 6) (.tmp 8)⟩]) (.cond (.tmp 9) (.skip) (.exit 0))) (.seq (.block 1 (.seq (.reg [
    ⟨some 12, none, .mov (.tmp 0)⟩,
    ⟨some 13, none, .mov (.tmp 5)⟩,
    ⟨some 14, none, .mov (.tmp 1)⟩,
    ⟨some 15, none, .iaddr 5 (.tmp 12) (.tmp 13)⟩,
    ⟨some 16, none, .faddr 0 (.tmp 15)⟩,
    ⟨none, none, .store 1 (.tmp 16) (.tmp 14)⟩]) (.seq (.reg [
    ⟨some 17, none, .mov (.tmp 1)⟩,
    ⟨some 18, none, .bin .add (.tmp 17) (.const (.int .i64 1))⟩,
    ⟨some 1, none, .mov (.tmp 18)⟩]) (.seq (.reg [
    ⟨some 19, none, .mov (.tmp 0)⟩,
    ⟨some 20, none, .mov (.tmp 5)⟩,
    ⟨some 21, none, .mov (.tmp 1)⟩,
    ⟨some 22, none, .iaddr 5 (.tmp 19) (.tmp 20)⟩,
    ⟨some 23, none, .faddr 1 (.tmp 22)⟩,
    ⟨none, none, .store 1 (.tmp 23) (.tmp 21)⟩]) (.seq (.reg [
    ⟨some 24, none, .mov (.tmp 1)⟩,
    ⟨some 25, none, .bin .add (.tmp 24) (.const (.int .i64 1))⟩,
    ⟨some 1, none, .mov (.tmp 25)⟩]) (.seq (.reg [
    ⟨some 26, none, .mov (.tmp 0)⟩,
    ⟨some 27, none, .mov (.tmp 5)⟩,
    ⟨some 28, none, .mov (.tmp 1)⟩,
    ⟨some 29, none, .iaddr 5 (.tmp 26) (.tmp 27)⟩,
    ⟨some 30, none, .faddr 2 (.tmp 29)⟩,
    ⟨none, none, .store 1 (.tmp 30) (.tmp 28)⟩]) (.seq (.reg [
    ⟨some 31, none, .mov (.tmp 1)⟩,
    ⟨some 32, none, .bin .add (.tmp 31) (.const (.int .i64 1))⟩,
    ⟨some 1, none, .mov (.tmp 32)⟩]) (.seq (.reg [
    ⟨some 33, none, .mov (.tmp 0)⟩,
    ⟨some 34, none, .mov (.tmp 5)⟩,
    ⟨some 35, none, .mov (.tmp 1)⟩,
    ⟨some 36, none, .iaddr 5 (.tmp 33) (.tmp 34)⟩,
    ⟨some 37, none, .faddr 3 (.tmp 36)⟩,
    ⟨none, none, .store 1 (.tmp 37) (.tmp 35)⟩]) (.seq (.reg [
    ⟨some 38, none, .mov (.tmp 1)⟩,
    ⟨some 39, none, .bin .add (.tmp 38) (.const (.int .i64 1))⟩,
    ⟨some 1, none, .mov (.tmp 39)⟩]) (.seq (.reg [
    ⟨some 40, none, .mov (.tmp 0)⟩,
    ⟨some 41, none, .mov (.tmp 5)⟩,
    ⟨some 42, none, .mov (.tmp 1)⟩,
    ⟨some 43, none, .iaddr 5 (.tmp 40) (.tmp 41)⟩,
    ⟨some 44, none, .faddr 4 (.tmp 43)⟩,
    ⟨none, none, .store 1 (.tmp 44) (.tmp 42)⟩]) (.reg [
    ⟨some 45, none, .mov (.tmp 1)⟩,
    ⟨some 46, none, .bin .add (.tmp 45) (.const (.int .i64 1))⟩,
    ⟨some 1, none, .mov (.tmp 46)⟩]))))))))))) (.reg [
    ⟨some 10, none, .mov (.tmp 5)⟩,
    ⟨some 11, none, .bin .add (.tmp 10) (.const (.int .i64 1))⟩,
    ⟨some 5, none, .mov (.tmp 11)⟩])))))) (.seq (.reg [
    ⟨some 47, none, .mov (.tmp 1)⟩,
    ⟨some 4, none, .mov (.tmp 47)⟩]) (.ret)))
theorem t23 : Try.f23.body.bind (trC e23) = some c23 := by kernel_rfl
theorem r23 : Try.f23.results.toList.mapM (trR Try.prog) = some [.tmp 4] := by kernel_rfl
theorem fn23 {args : List Value} {M : Mem} {post : Value → Mem → Prop} (hl : args.length ≤ 48) (h : VC e23 c23 (fnQ [.tmp 4] post) (initS args 48) M) : Fn Try.prog 23 args M post :=
  Fn.of' (E := e23) Try.func23 t23 rfl r23 mixed hl h
/-! laws.heldActS -/
noncomputable def e24 : Env := ⟨Try.prog, [], 58, []⟩
noncomputable def c24 : C :=
  .seq (.reg [
    ⟨some 4, none, .mov (.const (.int .i64 0))⟩]) (.seq (.seq (.reg [
    ⟨some 5, none, .mov (.const (.int .i64 0))⟩]) (.block 0 (.loop (.seq (.seq (.reg [
    ⟨some 6, none, .mov (.tmp 5)⟩,
    ⟨some 7, none, .mov (.tmp 0)⟩,
    ⟨some 8, none, .lenS (.tmp 7)⟩,
    ⟨some 9, none, .bin .lss (.tmp 6) (.tmp 8)⟩]) (.cond (.tmp 9) (.skip) (.exit 0))) (.seq (.block 1 (.seq (.seq (.reg [
    ⟨some 12, none, .mov (.tmp 0)⟩,
    ⟨some 13, none, .mov (.tmp 5)⟩,
    ⟨some 14, none, .iaddr 5 (.tmp 12) (.tmp 13)⟩,
    ⟨some 15, none, .faddr 0 (.tmp 14)⟩,
    ⟨some 16, none, .load true 1 (.tmp 15)⟩,
    ⟨some 17, none, .mov (.tmp 1)⟩,
    ⟨some 18, none, .bin .neq (.tmp 16) (.tmp 17)⟩]) (.cond (.tmp 18) (.seq (.reg [
    ⟨some 4, none, .mov (.const (.int .i64 (-1)))⟩]) (.ret)) (.skip))) (.seq (.reg [
    ⟨some 19, none, .mov (.tmp 1)⟩,
    ⟨some 20, none, .bin .add (.tmp 19) (.const (.int .i64 1))⟩,
    ⟨some 1, none, .mov (.tmp 20)⟩]) (.seq (.seq (.reg [
    ⟨some 21, none, .mov (.tmp 0)⟩,
    ⟨some 22, none, .mov (.tmp 5)⟩,
    ⟨some 23, none, .iaddr 5 (.tmp 21) (.tmp 22)⟩,
    ⟨some 24, none, .faddr 1 (.tmp 23)⟩,
    ⟨some 25, none, .load true 1 (.tmp 24)⟩,
    ⟨some 26, none, .mov (.tmp 1)⟩,
    ⟨some 27, none, .bin .neq (.tmp 25) (.tmp 26)⟩]) (.cond (.tmp 27) (.seq (.reg [
    ⟨some 4, none, .mov (.const (.int .i64 (-1)))⟩]) (.ret)) (.skip))) (.seq (.reg [
    ⟨some 28, none, .mov (.tmp 1)⟩,
    ⟨some 29, none, .bin .add (.tmp 28) (.const (.int .i64 1))⟩,
    ⟨some 1, none, .mov (.tmp 29)⟩]) (.seq (.seq (.reg [
    ⟨some 30, none, .mov (.tmp 0)⟩,
    ⟨some 31, none, .mov (.tmp 5)⟩,
    ⟨some 32, none, .iaddr 5 (.tmp 30) (.tmp 31)⟩,
    ⟨some 33, none, .faddr 2 (.tmp 32)⟩,
    ⟨some 34, none, .load true 1 (.tmp 33)⟩,
    ⟨some 35, none, .mov (.tmp 1)⟩,
    ⟨some 36, none, .bin .neq (.tmp 34) (.tmp 35)⟩]) (.cond (.tmp 36) (.seq (.reg [
    ⟨some 4, none, .mov (.const (.int .i64 (-1)))⟩]) (.ret)) (.skip))) (.seq (.reg [
    ⟨some 37, none, .mov (.tmp 1)⟩,
    ⟨some 38, none, .bin .add (.tmp 37) (.const (.int .i64 1))⟩,
    ⟨some 1, none, .mov (.tmp 38)⟩]) (.seq (.seq (.reg [
    ⟨some 39, none, .mov (.tmp 0)⟩,
    ⟨some 40, none, .mov (.tmp 5)⟩,
    ⟨some 41, none, .iaddr 5 (.tmp 39) (.tmp 40)⟩,
    ⟨some 42, none, .faddr 3 (.tmp 41)⟩,
    ⟨some 43, none, .load true 1 (.tmp 42)⟩,
    ⟨some 44, none, .mov (.tmp 1)⟩,
    ⟨some 45, none, .bin .neq (.tmp 43) (.tmp 44)⟩]) (.cond (.tmp 45) (.seq (.reg [
    ⟨some 4, none, .mov (.const (.int .i64 (-1)))⟩]) (.ret)) (.skip))) (.seq (.reg [
    ⟨some 46, none, .mov (.tmp 1)⟩,
    ⟨some 47, none, .bin .add (.tmp 46) (.const (.int .i64 1))⟩,
    ⟨some 1, none, .mov (.tmp 47)⟩]) (.seq (.seq (.reg [
    ⟨some 48, none, .mov (.tmp 0)⟩,
    ⟨some 49, none, .mov (.tmp 5)⟩,
    ⟨some 50, none, .iaddr 5 (.tmp 48) (.tmp 49)⟩,
    ⟨some 51, none, .faddr 4 (.tmp 50)⟩,
    ⟨some 52, none, .load true 1 (.tmp 51)⟩,
    ⟨some 53, none, .mov (.tmp 1)⟩,
    ⟨some 54, none, .bin .neq (.tmp 52) (.tmp 53)⟩]) (.cond (.tmp 54) (.seq (.reg [
    ⟨some 4, none, .mov (.const (.int .i64 (-1)))⟩]) (.ret)) (.skip))) (.reg [
    ⟨some 55, none, .mov (.tmp 1)⟩,
    ⟨some 56, none, .bin .add (.tmp 55) (.const (.int .i64 1))⟩,
    ⟨some 1, none, .mov (.tmp 56)⟩]))))))))))) (.reg [
    ⟨some 10, none, .mov (.tmp 5)⟩,
    ⟨some 11, none, .bin .add (.tmp 10) (.const (.int .i64 1))⟩,
    ⟨some 5, none, .mov (.tmp 11)⟩])))))) (.seq (.reg [
    ⟨some 57, none, .mov (.tmp 1)⟩,
    ⟨some 4, none, .mov (.tmp 57)⟩]) (.ret)))
theorem t24 : Try.f24.body.bind (trC e24) = some c24 := by kernel_rfl
theorem r24 : Try.f24.results.toList.mapM (trR Try.prog) = some [.tmp 4] := by kernel_rfl
theorem fn24 {args : List Value} {M : Mem} {post : Value → Mem → Prop} (hl : args.length ≤ 58) (h : VC e24 c24 (fnQ [.tmp 4] post) (initS args 58) M) : Fn Try.prog 24 args M post :=
  Fn.of' (E := e24) Try.func24 t24 rfl r24 mixed hl h
end Go.Proofs.Ytcmllambknfleaa.E
/- The functions of the program in the engine's form, written by a program out of the loaded translation, and checked against it by the kernel. Conditions: none. -/
set_option maxRecDepth 100000
set_option linter.unusedVariables false
namespace Go.Proofs.Ytcmllambknfleaa.E
open Go
/-! impl.Reach -/
noncomputable def e45 : Env := ⟨Try.prog, [], 7, []⟩
noncomputable def c45 : C :=
  .seq (.reg [
    ⟨some 1, none, .box false (.tmp 0)⟩,
    ⟨some 2, none, .mov (.const (.slice none 0 0))⟩]) (.seq (.seq (.reg [
    ⟨some 3, none, .load false 13 (.tmp 1)⟩,
    ⟨some 4, none, .call 105 [.tmp 3]⟩,
    ⟨some 5, none, .not (.tmp 4)⟩]) (.cond (.tmp 5) (.seq (.reg [
    ⟨some 2, none, .mov (.const (.slice none 0 0))⟩]) (.ret)) (.skip))) (.seq (.reg [
    ⟨some 6, none, .call 112 [.tmp 1]⟩,
    ⟨some 2, none, .mov (.tmp 6)⟩]) (.ret)))
theorem t45 : Try.f45.body.bind (trC e45) = some c45 := by kernel_rfl
theorem r45 : Try.f45.results.toList.mapM (trR Try.prog) = some [.tmp 2] := by kernel_rfl
theorem fn45 {args : List Value} {M : Mem} {post : Value → Mem → Prop} (hl : args.length ≤ 7) (h : VC e45 c45 (fnQ [.tmp 2] post) (initS args 7) M) : Fn Try.prog 45 args M post :=
  Fn.of' (E := e45) Try.func45 t45 rfl r45 mixed hl h
/-! spec.Reach -/
noncomputable def e44 : Env := ⟨Try.prog, [], 13, []⟩
noncomputable def c44 : C :=
  .seq (.reg [
    ⟨some 1, none, .box false (.tmp 0)⟩,
    ⟨some 2, none, .mov (.const (.slice none 0 0))⟩]) (.seq (.seq (.reg [
    ⟨some 5, none, .load false 13 (.tmp 1)⟩,
    ⟨some 6, none, .call 31 [.tmp 5]⟩,
    ⟨some 7, none, .bin .neq (.tmp 6) (.const (.int .i64 0))⟩]) (.cond (.tmp 7) (.seq (.reg [
    ⟨some 2, none, .mov (.const (.slice none 0 0))⟩]) (.ret)) (.skip))) (.seq (.reg [
    ⟨some 9, none, .call 116 [.tmp 1]⟩,
    ⟨some 8, none, .mov (.tmp 9)⟩,
    ⟨some 10, none, .ext (.tmp 8) 0⟩,
    ⟨some 11, none, .ext (.tmp 8) 1⟩,
    ⟨some 3, none, .mov (.tmp 10)⟩,
    ⟨some 4, none, .mov (.tmp 11)⟩]) (.seq (.reg [
    ⟨some 12, none, .mov (.tmp 3)⟩,
    ⟨some 2, none, .mov (.tmp 12)⟩]) (.ret))))
theorem t44 : Try.f44.body.bind (trC e44) = some c44 := by kernel_rfl
theorem r44 : Try.f44.results.toList.mapM (trR Try.prog) = some [.tmp 2] := by kernel_rfl
theorem fn44 {args : List Value} {M : Mem} {post : Value → Mem → Prop} (hl : args.length ≤ 13) (h : VC e44 c44 (fnQ [.tmp 2] post) (initS args 13) M) : Fn Try.prog 44 args M post :=
  Fn.of' (E := e44) Try.func44 t44 rfl r44 mixed hl h
end Go.Proofs.Ytcmllambknfleaa.E
/- The laws' marks: what is written into an answer, and found there again. Conditions: none. -/
set_option linter.unusedVariables false
set_option linter.unusedSimpArgs false
set_option maxRecDepth 100000
namespace Go.Proofs.Ytcmllambknfleaa.E
open Go
open Classical
section
variable {α : Type} {g : Int → α → α} {w : α → Int}
def mkG (g : Int → α → α) (w : α → Int) : Int → List α → List α
  | _, [] => []
  | k, x :: r => g k x :: mkG g w (k + w x) r
def mkT (w : α → Int) : Int → List α → Int
  | k, [] => k
  | k, x :: r => mkT w (k + w x) r
theorem mkT_ge (hw : ∀ x, 0 ≤ w x) : ∀ (xs : List α) (k : Int), k ≤ mkT w k xs
  | [], k => Int.le_refl _
  | x :: r, k => by have := mkT_ge hw r (k + w x); have := hw x; simp only [mkT]; omega
theorem mkT_append : ∀ (xs ys : List α) (k : Int), mkT w k (xs ++ ys) = mkT w (mkT w k xs) ys
  | [], _, _ => rfl
  | x :: r, ys, k => by simp only [List.cons_append, mkT]; exact mkT_append r ys _
theorem mkG_append : ∀ (xs ys : List α) (k : Int), mkG g w k (xs ++ ys) = mkG g w k xs ++ mkG g w (mkT w k xs) ys
  | [], _, _ => rfl
  | x :: r, ys, k => by simp only [List.cons_append, mkG, mkT]; rw [mkG_append r ys]
theorem mkG_len : ∀ (xs : List α) (k : Int), (mkG g w k xs).length = xs.length
  | [], _ => rfl
  | x :: r, k => by simp only [mkG, List.length_cons]; rw [mkG_len r]
theorem mkT_take {xs : List α} {i : Nat} {x : α} (h : xs[i]? = some x) (k : Int) : mkT w k (xs.take (i + 1)) = mkT w k (xs.take i) + w x := by
  rw [List.take_add_one, h, Option.toList_some, mkT_append]; rfl
theorem mkG_take {xs : List α} {i : Nat} {x : α} (h : xs[i]? = some x) (k : Int) : mkG g w k (xs.take (i + 1)) = mkG g w k (xs.take i) ++ [g (mkT w k (xs.take i)) x] := by
  rw [List.take_add_one, h, Option.toList_some, mkG_append]; rfl
theorem mkT_le (hw : ∀ x, 0 ≤ w x) (xs : List α) (k : Int) (i : Nat) : mkT w k (xs.take i) ≤ mkT w k xs := by
  have : mkT w k xs = mkT w (mkT w k (xs.take i)) (xs.drop i) := by rw [← mkT_append, List.take_append_drop]
  rw [this]; exact mkT_ge hw _ _
theorem mkG_get {xs : List α} {i : Nat} {x : α} (h : xs[i]? = some x) (k : Int) : (mkG g w k xs)[i]? = some (g (mkT w k (xs.take i)) x) := by
  have hi := (List.getElem?_eq_some_iff.1 h).1
  have e : mkG g w k xs = mkG g w k (xs.take (i + 1)) ++ mkG g w (mkT w k (xs.take (i + 1))) (xs.drop (i + 1)) := by rw [← mkG_append, List.take_append_drop]
  rw [e, mkG_take h, List.append_assoc, List.getElem?_append_right (by rw [mkG_len, List.length_take]; omega)]
  rw [mkG_len, List.length_take, Nat.min_eq_left (by omega), Nat.sub_self]; rfl
theorem mid_get {xs : List α} {i : Nat} {x : α} (h : xs[i]? = some x) (k : Int) : (mkG g w k (xs.take i) ++ xs.drop i)[i]? = some x := by
  have hi := (List.getElem?_eq_some_iff.1 h).1
  rw [List.getElem?_append_right (by rw [mkG_len, List.length_take]; omega), mkG_len, List.length_take, Nat.min_eq_left (by omega), Nat.sub_self, List.getElem?_drop]; exact h
theorem mid_set {xs : List α} {i : Nat} {x y : α} (h : xs[i]? = some x) {k kk : Int} (hk : kk = mkT w k (xs.take i)) (hy : y = g kk x) : (mkG g w k (xs.take i) ++ xs.drop i).set i y = mkG g w k (xs.take (i + 1)) ++ xs.drop (i + 1) := by
  have hi := (List.getElem?_eq_some_iff.1 h).1
  rw [List.set_append_right _ _ (by rw [mkG_len, List.length_take]; omega), mkG_len, List.length_take, Nat.min_eq_left (by omega), Nat.sub_self, mkG_take h, hy, hk]
  rw [List.drop_eq_getElem_cons hi, List.set_cons_zero]
  simp
theorem mid_len {xs : List α} {i : Nat} {k : Int} : (mkG g w k (xs.take i) ++ xs.drop i).length = xs.length := by
  rw [List.length_append, mkG_len, List.length_take, List.length_drop]; omega
end
theorem set_get {α : Type} {l : List α} {i : Nat} {x y : α} (h : l[i]? = some x) : (l.set i y)[i]? = some y := by
  rw [List.getElem?_set_self (List.getElem?_eq_some_iff.1 h).1]
theorem OffL.refl (M : Mem) (L : List Nat) : OffL M L M := fun _ _ h _ => h
theorem OffL.off {M0 M M' : Mem} {L : List Nat} {b : Nat} (h : OffL M0 L M) (o : Off M b M') (hb : b ∈ L) : OffL M0 L M' := fun c k e hc => by
  rw [o c (fun e' => hc (e' ▸ hb))]; exact h c k e hc
theorem OffL.trans {M0 M M' : Mem} {L : List Nat} (h : OffL M0 L M) (o : OffL M L M') : OffL M0 L M' := fun c k e hc => o c k (h c k e hc) hc
theorem OffL.mono {M M' : Mem} {L L' : List Nat} (h : OffL M L M') (l : ∀ b, b ∈ L → b ∈ L') : OffL M L' M' := fun c k e hc => h c k e (fun m => hc (l c m))
theorem OffL.le {M0 M M' : Mem} {L : List Nat} (h : OffL M L M') (l : M0.le M) (hn : ∀ b, b ∈ L → M0 b = none) : M0.le M' := fun c k e => h c k (l c k e) (fun m => by rw [hn c m] at e; cases e)
def gW (k : Int) (_ : Word) : Word := ⟨k, k + 1, k + 1 + 1⟩
def gP (k : Int) (_ : Pair) : Pair := ⟨⟨k, k + 1, k + 1 + 1⟩, ⟨k + 1 + 1 + 1, k + 1 + 1 + 1 + 1, k + 1 + 1 + 1 + 1 + 1⟩⟩
def gI (k : Int) (_ : Int) : Int := k
def gB (k : Int) (_ : Bool) : Bool := k.tmod 3 == 0
def gA (k : Int) (_ : Act) : Act := ⟨k, k + 1, k + 1 + 1, k + 1 + 1 + 1, k + 1 + 1 + 1 + 1⟩
def wW (_ : Word) : Int := 3
def wP (_ : Pair) : Int := 6
def wI (_ : Int) : Int := 1
def wB (_ : Bool) : Int := 1
def wA (_ : Act) : Int := 5
theorem mkT_const {α : Type} {w : α → Int} {c : Int} (h : ∀ x, w x = c) : ∀ (xs : List α) (k : Int), mkT w k xs = k + c * xs.length
  | [], k => by simp [mkT]
  | x :: r, k => by simp only [mkT, List.length_cons]; rw [mkT_const h r, h, Int.natCast_add, Int.mul_add]; omega
theorem markWordS_f {M : Mem} {va : Value} {xs : List Word} {k : Int} (h0 : 0 ≤ k) (hb : mkT wW k xs ≤ 4611686018427387904) (ha : Sl M 3 wv va xs) :
    Fn Try.prog 75 [va, .int .i64 k] M (fun v M' => v = .int .i64 (mkT wW k xs) ∧ OffL M (own va) M' ∧ Sl M' 3 wv va (mkG gW wW k xs)) := by
  obtain ⟨aa, ca, ea⟩ := ha.len
  have hbd := ha.bound
  refine fn75 (by simp) ?_
  subst ea
  repeat' (first
    | (refine vl_pure rfl ?_)
    | (refine vl_nil ?_)
    | (refine VC.seq ?_)
    | (refine VC.regV ?_)
    | (refine VC.block ?_))
  refine VC.loop (α := Nat × Int) (fun p => [(0, .v (.slice aa xs.length ca)), (1, .v (.int .i64 p.2)), (5, .v (.int .i64 p.1))]) (fun n p M' => n = xs.length - p.1 ∧ p.1 ≤ xs.length ∧ p.2 = mkT wW k (xs.take p.1) ∧ OffL M (own (.slice aa xs.length ca)) M' ∧ Sl M' 3 wv (.slice aa xs.length ca) (mkG gW wW k (xs.take p.1) ++ xs.drop p.1))
    ⟨_, (0, k), M, ⟨rfl, rfl, rfl, trivial⟩, Mem.le_refl _, rfl, Nat.zero_le _, rfl, OffL.refl _ _, ha⟩ ?_
  rintro n ⟨i, kk⟩ M2 ⟨rfl, hi, hkk, hoff, hsl⟩
  dsimp only at hi hkk hoff hsl ⊢
  repeat' (first
    | (refine vl_pure rfl ?_)
    | (refine vl_nil ?_)
    | (refine VC.seq ?_)
    | (refine VC.regV ?_)
    | (refine seqQ_n ?_))
  refine VC.cond _ rfl (fun h => ?_) (fun h => ?_)
  · have hi : i < xs.length := by simpa using h
    obtain ⟨x, gx⟩ : ∃ x, xs[i]? = some x := ⟨_, List.getElem?_eq_getElem hi⟩
    obtain ⟨b, o, rfl, c1⟩ := hsl.at2 (fun _ => rfl) (mid_get gx k)
    have hk1 := mkT_take (w := wW) gx k
    have hk2 := mkT_le (w := wW) (fun _ => by unfold wW; omega) xs k (i + 1)
    have hk3 := mkT_ge (w := wW) (fun _ => by unfold wW; omega) (xs.take i) k
    have hwx : wW x = 3 := rfl
    repeat' (first
      | (refine vl_pure rfl ?_)
      | (refine VC.seq ?_)
      | (refine VC.regV ?_)
      | (refine vl_idx rfl rfl (by omega) ?_)
      | (refine VC.block ?_)
      | (refine VC.skip ?_))
    refine vl_sts (⟨kk, x.num, x.at_⟩) hsl (fun _ => rfl) (mid_get gx k) (i := i) (j := 0) rfl rfl rfl rfl (Nat.le_of_ble_eq_true rfl) rfl (fun M1 o1 s1 => ?_)
    repeat' (first
      | (refine vl_add rfl rfl (by omega) ?_)
      | (refine vl_pure rfl ?_)
      | (refine vl_nil ?_)
      | (refine VC.seq ?_)
      | (refine VC.regV ?_)
      | (refine vl_idx rfl rfl (by omega) ?_))
    refine vl_sts (⟨kk, kk + 1, x.at_⟩) s1 (fun _ => rfl) (set_get (mid_get gx k)) (i := i) (j := 1) rfl rfl rfl rfl (Nat.le_of_ble_eq_true rfl) rfl (fun M2 o2 s2 => ?_)
    rw [List.set_set] at s2
    repeat' (first
      | (refine vl_add rfl rfl (by omega) ?_)
      | (refine vl_pure rfl ?_)
      | (refine vl_nil ?_)
      | (refine VC.seq ?_)
      | (refine VC.regV ?_)
      | (refine vl_idx rfl rfl (by omega) ?_))
    refine vl_sts (gW kk x) s2 (fun _ => rfl) (set_get (mid_get gx k)) (i := i) (j := 2) rfl rfl rfl rfl (Nat.le_of_ble_eq_true rfl) rfl (fun M3 o3 s3 => ?_)
    rw [List.set_set] at s3
    repeat' (first
      | (refine vl_add rfl rfl (by omega) ?_)
      | (refine vl_pure rfl ?_)
      | (refine vl_nil ?_)
      | (refine VC.regV ?_)
      | (refine seqQ_n ?_))
    refine ⟨_, (i + 1, _), _, ?_, ⟨rfl, rfl, rfl, trivial⟩, Mem.le_refl _, rfl, hi, ?_, (((hoff.off o1 (by simp [own])).off o2 (by simp [own])).off o3 (by simp [own])), ?_⟩
    · dsimp only; omega
    · dsimp only; omega
    · rw [mid_set (g := gW) gx hkk rfl] at s3; exact s3
  · have hi : ¬ i < xs.length := by simpa using h
    repeat' (first
      | (refine vl_pure rfl ?_)
      | (refine vl_nil ?_)
      | (refine VC.seq ?_)
      | (refine VC.regV ?_)
      | (refine VC.ret ?_)
      | (refine VC.exit ?_))
    rw [List.drop_of_length_le (by omega), List.append_nil, List.take_of_length_le (by omega)] at hsl
    rw [List.take_of_length_le (by omega)] at hkk
    exact fnQ_r rfl (Mem.le_refl _) ⟨by rw [hkk], hoff, hsl⟩
theorem markPairS_f {M : Mem} {va : Value} {xs : List Pair} {k : Int} (h0 : 0 ≤ k) (hb : mkT wP k xs ≤ 4611686018427387904) (ha : Sl M 6 pv va xs) :
    Fn Try.prog 131 [va, .int .i64 k] M (fun v M' => v = .int .i64 (mkT wP k xs) ∧ OffL M (own va) M' ∧ Sl M' 6 pv va (mkG gP wP k xs)) := by
  obtain ⟨aa, ca, ea⟩ := ha.len
  have hbd := ha.bound
  refine fn131 (by simp) ?_
  subst ea
  repeat' (first
    | (refine vl_pure rfl ?_)
    | (refine vl_nil ?_)
    | (refine VC.seq ?_)
    | (refine VC.regV ?_)
    | (refine VC.block ?_))
  refine VC.loop (α := Nat × Int) (fun p => [(0, .v (.slice aa xs.length ca)), (1, .v (.int .i64 p.2)), (5, .v (.int .i64 p.1))]) (fun n p M' => n = xs.length - p.1 ∧ p.1 ≤ xs.length ∧ p.2 = mkT wP k (xs.take p.1) ∧ OffL M (own (.slice aa xs.length ca)) M' ∧ Sl M' 6 pv (.slice aa xs.length ca) (mkG gP wP k (xs.take p.1) ++ xs.drop p.1))
    ⟨_, (0, k), M, ⟨rfl, rfl, rfl, trivial⟩, Mem.le_refl _, rfl, Nat.zero_le _, rfl, OffL.refl _ _, ha⟩ ?_
  rintro n ⟨i, kk⟩ M2 ⟨rfl, hi, hkk, hoff, hsl⟩
  dsimp only at hi hkk hoff hsl ⊢
  repeat' (first
    | (refine vl_pure rfl ?_)
    | (refine vl_nil ?_)
    | (refine VC.seq ?_)
    | (refine VC.regV ?_)
    | (refine seqQ_n ?_))
  refine VC.cond _ rfl (fun h => ?_) (fun h => ?_)
  · have hi : i < xs.length := by simpa using h
    obtain ⟨x, gx⟩ : ∃ x, xs[i]? = some x := ⟨_, List.getElem?_eq_getElem hi⟩
    obtain ⟨b, o, rfl, c1⟩ := hsl.at2 (fun _ => rfl) (mid_get gx k)
    have hk1 := mkT_take (w := wP) gx k
    have hk2 := mkT_le (w := wP) (fun _ => by unfold wP; omega) xs k (i + 1)
    have hk3 := mkT_ge (w := wP) (fun _ => by unfold wP; omega) (xs.take i) k
    have hwx : wP x = 6 := rfl
    repeat' (first
      | (refine vl_pure rfl ?_)
      | (refine VC.seq ?_)
      | (refine VC.regV ?_)
      | (refine vl_idx rfl rfl (by omega) ?_)
      | (refine VC.block ?_)
      | (refine VC.skip ?_))
    refine vl_sts (⟨⟨kk, x.key.num, x.key.at_⟩, x.val⟩) hsl (fun _ => rfl) (mid_get gx k) (i := i) (j := 0) rfl rfl rfl rfl (Nat.le_of_ble_eq_true rfl) rfl (fun M1 o1 s1 => ?_)
    repeat' (first
      | (refine vl_add rfl rfl (by omega) ?_)
      | (refine vl_pure rfl ?_)
      | (refine vl_nil ?_)
      | (refine VC.seq ?_)
      | (refine VC.regV ?_)
      | (refine vl_idx rfl rfl (by omega) ?_))
    refine vl_sts (⟨⟨kk, kk + 1, x.key.at_⟩, x.val⟩) s1 (fun _ => rfl) (set_get (mid_get gx k)) (i := i) (j := 1) rfl rfl rfl rfl (Nat.le_of_ble_eq_true rfl) rfl (fun M2 o2 s2 => ?_)
    rw [List.set_set] at s2
    repeat' (first
      | (refine vl_add rfl rfl (by omega) ?_)
      | (refine vl_pure rfl ?_)
      | (refine vl_nil ?_)
      | (refine VC.seq ?_)
      | (refine VC.regV ?_)
      | (refine vl_idx rfl rfl (by omega) ?_))
    refine vl_sts (⟨⟨kk, kk + 1, kk + 1 + 1⟩, x.val⟩) s2 (fun _ => rfl) (set_get (mid_get gx k)) (i := i) (j := 2) rfl rfl rfl rfl (Nat.le_of_ble_eq_true rfl) rfl (fun M3 o3 s3 => ?_)
    rw [List.set_set] at s3
    repeat' (first
      | (refine vl_add rfl rfl (by omega) ?_)
      | (refine vl_pure rfl ?_)
      | (refine vl_nil ?_)
      | (refine VC.seq ?_)
      | (refine VC.regV ?_)
      | (refine vl_idx rfl rfl (by omega) ?_))
    refine vl_sts (⟨⟨kk, kk + 1, kk + 1 + 1⟩, ⟨kk + 1 + 1 + 1, x.val.num, x.val.at_⟩⟩) s3 (fun _ => rfl) (set_get (mid_get gx k)) (i := i) (j := 3) rfl rfl rfl rfl (Nat.le_of_ble_eq_true rfl) rfl (fun M4 o4 s4 => ?_)
    rw [List.set_set] at s4
    repeat' (first
      | (refine vl_add rfl rfl (by omega) ?_)
      | (refine vl_pure rfl ?_)
      | (refine vl_nil ?_)
      | (refine VC.seq ?_)
      | (refine VC.regV ?_)
      | (refine vl_idx rfl rfl (by omega) ?_))
    refine vl_sts (⟨⟨kk, kk + 1, kk + 1 + 1⟩, ⟨kk + 1 + 1 + 1, kk + 1 + 1 + 1 + 1, x.val.at_⟩⟩) s4 (fun _ => rfl) (set_get (mid_get gx k)) (i := i) (j := 4) rfl rfl rfl rfl (Nat.le_of_ble_eq_true rfl) rfl (fun M5 o5 s5 => ?_)
    rw [List.set_set] at s5
    repeat' (first
      | (refine vl_add rfl rfl (by omega) ?_)
      | (refine vl_pure rfl ?_)
      | (refine vl_nil ?_)
      | (refine VC.seq ?_)
      | (refine VC.regV ?_)
      | (refine vl_idx rfl rfl (by omega) ?_))
    refine vl_sts (gP kk x) s5 (fun _ => rfl) (set_get (mid_get gx k)) (i := i) (j := 5) rfl rfl rfl rfl (Nat.le_of_ble_eq_true rfl) rfl (fun M6 o6 s6 => ?_)
    rw [List.set_set] at s6
    repeat' (first
      | (refine vl_add rfl rfl (by omega) ?_)
      | (refine vl_pure rfl ?_)
      | (refine vl_nil ?_)
      | (refine VC.regV ?_)
      | (refine seqQ_n ?_))
    refine ⟨_, (i + 1, _), _, ?_, ⟨rfl, rfl, rfl, trivial⟩, Mem.le_refl _, rfl, hi, ?_, ((((((hoff.off o1 (by simp [own])).off o2 (by simp [own])).off o3 (by simp [own])).off o4 (by simp [own])).off o5 (by simp [own])).off o6 (by simp [own])), ?_⟩
    · dsimp only; omega
    · dsimp only; omega
    · rw [mid_set (g := gP) gx hkk rfl] at s6; exact s6
  · have hi : ¬ i < xs.length := by simpa using h
    repeat' (first
      | (refine vl_pure rfl ?_)
      | (refine vl_nil ?_)
      | (refine VC.seq ?_)
      | (refine VC.regV ?_)
      | (refine VC.ret ?_)
      | (refine VC.exit ?_))
    rw [List.drop_of_length_le (by omega), List.append_nil, List.take_of_length_le (by omega)] at hsl
    rw [List.take_of_length_le (by omega)] at hkk
    exact fnQ_r rfl (Mem.le_refl _) ⟨by rw [hkk], hoff, hsl⟩
theorem markIntS_f {M : Mem} {va : Value} {xs : List Int} {k : Int} (h0 : 0 ≤ k) (hb : mkT wI k xs ≤ 4611686018427387904) (ha : Sl M 1 iv va xs) :
    Fn Try.prog 77 [va, .int .i64 k] M (fun v M' => v = .int .i64 (mkT wI k xs) ∧ OffL M (own va) M' ∧ Sl M' 1 iv va (mkG gI wI k xs)) := by
  obtain ⟨aa, ca, ea⟩ := ha.len
  have hbd := ha.bound
  refine fn77 (by simp) ?_
  subst ea
  repeat' (first
    | (refine vl_pure rfl ?_)
    | (refine vl_nil ?_)
    | (refine VC.seq ?_)
    | (refine VC.regV ?_)
    | (refine VC.block ?_))
  refine VC.loop (α := Nat × Int) (fun p => [(0, .v (.slice aa xs.length ca)), (1, .v (.int .i64 p.2)), (5, .v (.int .i64 p.1))]) (fun n p M' => n = xs.length - p.1 ∧ p.1 ≤ xs.length ∧ p.2 = mkT wI k (xs.take p.1) ∧ OffL M (own (.slice aa xs.length ca)) M' ∧ Sl M' 1 iv (.slice aa xs.length ca) (mkG gI wI k (xs.take p.1) ++ xs.drop p.1))
    ⟨_, (0, k), M, ⟨rfl, rfl, rfl, trivial⟩, Mem.le_refl _, rfl, Nat.zero_le _, rfl, OffL.refl _ _, ha⟩ ?_
  rintro n ⟨i, kk⟩ M2 ⟨rfl, hi, hkk, hoff, hsl⟩
  dsimp only at hi hkk hoff hsl ⊢
  repeat' (first
    | (refine vl_pure rfl ?_)
    | (refine vl_nil ?_)
    | (refine VC.seq ?_)
    | (refine VC.regV ?_)
    | (refine seqQ_n ?_))
  refine VC.cond _ rfl (fun h => ?_) (fun h => ?_)
  · have hi : i < xs.length := by simpa using h
    obtain ⟨x, gx⟩ : ∃ x, xs[i]? = some x := ⟨_, List.getElem?_eq_getElem hi⟩
    obtain ⟨b, o, rfl, c1⟩ := hsl.at2 (fun _ => rfl) (mid_get gx k)
    have hk1 := mkT_take (w := wI) gx k
    have hk2 := mkT_le (w := wI) (fun _ => by unfold wI; omega) xs k (i + 1)
    have hk3 := mkT_ge (w := wI) (fun _ => by unfold wI; omega) (xs.take i) k
    have hwx : wI x = 1 := rfl
    repeat' (first
      | (refine vl_pure rfl ?_)
      | (refine VC.seq ?_)
      | (refine VC.regV ?_)
      | (refine vl_idx rfl rfl (by omega) ?_)
      | (refine VC.block ?_)
      | (refine VC.skip ?_))
    refine vl_sts (gI kk x) hsl (fun _ => rfl) (mid_get gx k) (i := i) (j := 0) rfl rfl rfl rfl (Nat.le_of_ble_eq_true rfl) rfl (fun M1 o1 s1 => ?_)
    repeat' (first
      | (refine vl_add rfl rfl (by omega) ?_)
      | (refine vl_pure rfl ?_)
      | (refine vl_nil ?_)
      | (refine VC.regV ?_)
      | (refine seqQ_n ?_))
    refine ⟨_, (i + 1, _), _, ?_, ⟨rfl, rfl, rfl, trivial⟩, Mem.le_refl _, rfl, hi, ?_, (hoff.off o1 (by simp [own])), ?_⟩
    · dsimp only; omega
    · dsimp only; omega
    · rw [mid_set (g := gI) gx hkk rfl] at s1; exact s1
  · have hi : ¬ i < xs.length := by simpa using h
    repeat' (first
      | (refine vl_pure rfl ?_)
      | (refine vl_nil ?_)
      | (refine VC.seq ?_)
      | (refine VC.regV ?_)
      | (refine VC.ret ?_)
      | (refine VC.exit ?_))
    rw [List.drop_of_length_le (by omega), List.append_nil, List.take_of_length_le (by omega)] at hsl
    rw [List.take_of_length_le (by omega)] at hkk
    exact fnQ_r rfl (Mem.le_refl _) ⟨by rw [hkk], hoff, hsl⟩
theorem markBoolS_f {M : Mem} {va : Value} {xs : List Bool} {k : Int} (h0 : 0 ≤ k) (hb : mkT wB k xs ≤ 4611686018427387904) (ha : Sl M 1 bv va xs) :
    Fn Try.prog 47 [va, .int .i64 k] M (fun v M' => v = .int .i64 (mkT wB k xs) ∧ OffL M (own va) M' ∧ Sl M' 1 bv va (mkG gB wB k xs)) := by
  obtain ⟨aa, ca, ea⟩ := ha.len
  have hbd := ha.bound
  refine fn47 (by simp) ?_
  subst ea
  repeat' (first
    | (refine vl_pure rfl ?_)
    | (refine vl_nil ?_)
    | (refine VC.seq ?_)
    | (refine VC.regV ?_)
    | (refine VC.block ?_))
  refine VC.loop (α := Nat × Int) (fun p => [(0, .v (.slice aa xs.length ca)), (1, .v (.int .i64 p.2)), (5, .v (.int .i64 p.1))]) (fun n p M' => n = xs.length - p.1 ∧ p.1 ≤ xs.length ∧ p.2 = mkT wB k (xs.take p.1) ∧ OffL M (own (.slice aa xs.length ca)) M' ∧ Sl M' 1 bv (.slice aa xs.length ca) (mkG gB wB k (xs.take p.1) ++ xs.drop p.1))
    ⟨_, (0, k), M, ⟨rfl, rfl, rfl, trivial⟩, Mem.le_refl _, rfl, Nat.zero_le _, rfl, OffL.refl _ _, ha⟩ ?_
  rintro n ⟨i, kk⟩ M2 ⟨rfl, hi, hkk, hoff, hsl⟩
  dsimp only at hi hkk hoff hsl ⊢
  repeat' (first
    | (refine vl_pure rfl ?_)
    | (refine vl_nil ?_)
    | (refine VC.seq ?_)
    | (refine VC.regV ?_)
    | (refine seqQ_n ?_))
  refine VC.cond _ rfl (fun h => ?_) (fun h => ?_)
  · have hi : i < xs.length := by simpa using h
    obtain ⟨x, gx⟩ : ∃ x, xs[i]? = some x := ⟨_, List.getElem?_eq_getElem hi⟩
    obtain ⟨b, o, rfl, c1⟩ := hsl.at2 (fun _ => rfl) (mid_get gx k)
    have hk1 := mkT_take (w := wB) gx k
    have hk2 := mkT_le (w := wB) (fun _ => by unfold wB; omega) xs k (i + 1)
    have hk3 := mkT_ge (w := wB) (fun _ => by unfold wB; omega) (xs.take i) k
    have hwx : wB x = 1 := rfl
    repeat' (first
      | (refine vl_pure rfl ?_)
      | (refine VC.seq ?_)
      | (refine VC.regV ?_)
      | (refine vl_idx rfl rfl (by omega) ?_)
      | (refine VC.block ?_)
      | (refine VC.skip ?_))
    refine vl_sts (gB kk x) hsl (fun _ => rfl) (mid_get gx k) (i := i) (j := 0) rfl rfl rfl rfl (Nat.le_of_ble_eq_true rfl) rfl (fun M1 o1 s1 => ?_)
    repeat' (first
      | (refine vl_add rfl rfl (by omega) ?_)
      | (refine vl_pure rfl ?_)
      | (refine vl_nil ?_)
      | (refine VC.regV ?_)
      | (refine seqQ_n ?_))
    refine ⟨_, (i + 1, _), _, ?_, ⟨rfl, rfl, rfl, trivial⟩, Mem.le_refl _, rfl, hi, ?_, (hoff.off o1 (by simp [own])), ?_⟩
    · dsimp only; omega
    · dsimp only; omega
    · rw [mid_set (g := gB) gx hkk rfl] at s1; exact s1
  · have hi : ¬ i < xs.length := by simpa using h
    repeat' (first
      | (refine vl_pure rfl ?_)
      | (refine vl_nil ?_)
      | (refine VC.seq ?_)
      | (refine VC.regV ?_)
      | (refine VC.ret ?_)
      | (refine VC.exit ?_))
    rw [List.drop_of_length_le (by omega), List.append_nil, List.take_of_length_le (by omega)] at hsl
    rw [List.take_of_length_le (by omega)] at hkk
    exact fnQ_r rfl (Mem.le_refl _) ⟨by rw [hkk], hoff, hsl⟩
theorem markActS_f {M : Mem} {va : Value} {xs : List Act} {k : Int} (h0 : 0 ≤ k) (hb : mkT wA k xs ≤ 4611686018427387904) (ha : Sl M 5 av va xs) :
    Fn Try.prog 23 [va, .int .i64 k] M (fun v M' => v = .int .i64 (mkT wA k xs) ∧ OffL M (own va) M' ∧ Sl M' 5 av va (mkG gA wA k xs)) := by
  obtain ⟨aa, ca, ea⟩ := ha.len
  have hbd := ha.bound
  refine fn23 (by simp) ?_
  subst ea
  repeat' (first
    | (refine vl_pure rfl ?_)
    | (refine vl_nil ?_)
    | (refine VC.seq ?_)
    | (refine VC.regV ?_)
    | (refine VC.block ?_))
  refine VC.loop (α := Nat × Int) (fun p => [(0, .v (.slice aa xs.length ca)), (1, .v (.int .i64 p.2)), (5, .v (.int .i64 p.1))]) (fun n p M' => n = xs.length - p.1 ∧ p.1 ≤ xs.length ∧ p.2 = mkT wA k (xs.take p.1) ∧ OffL M (own (.slice aa xs.length ca)) M' ∧ Sl M' 5 av (.slice aa xs.length ca) (mkG gA wA k (xs.take p.1) ++ xs.drop p.1))
    ⟨_, (0, k), M, ⟨rfl, rfl, rfl, trivial⟩, Mem.le_refl _, rfl, Nat.zero_le _, rfl, OffL.refl _ _, ha⟩ ?_
  rintro n ⟨i, kk⟩ M2 ⟨rfl, hi, hkk, hoff, hsl⟩
  dsimp only at hi hkk hoff hsl ⊢
  repeat' (first
    | (refine vl_pure rfl ?_)
    | (refine vl_nil ?_)
    | (refine VC.seq ?_)
    | (refine VC.regV ?_)
    | (refine seqQ_n ?_))
  refine VC.cond _ rfl (fun h => ?_) (fun h => ?_)
  · have hi : i < xs.length := by simpa using h
    obtain ⟨x, gx⟩ : ∃ x, xs[i]? = some x := ⟨_, List.getElem?_eq_getElem hi⟩
    obtain ⟨b, o, rfl, c1⟩ := hsl.at2 (fun _ => rfl) (mid_get gx k)
    have hk1 := mkT_take (w := wA) gx k
    have hk2 := mkT_le (w := wA) (fun _ => by unfold wA; omega) xs k (i + 1)
    have hk3 := mkT_ge (w := wA) (fun _ => by unfold wA; omega) (xs.take i) k
    have hwx : wA x = 5 := rfl
    repeat' (first
      | (refine vl_pure rfl ?_)
      | (refine VC.seq ?_)
      | (refine VC.regV ?_)
      | (refine vl_idx rfl rfl (by omega) ?_)
      | (refine VC.block ?_)
      | (refine VC.skip ?_))
    refine vl_sts (⟨kk, x.a, x.b, x.c, x.n⟩) hsl (fun _ => rfl) (mid_get gx k) (i := i) (j := 0) rfl rfl rfl rfl (Nat.le_of_ble_eq_true rfl) rfl (fun M1 o1 s1 => ?_)
    repeat' (first
      | (refine vl_add rfl rfl (by omega) ?_)
      | (refine vl_pure rfl ?_)
      | (refine vl_nil ?_)
      | (refine VC.seq ?_)
      | (refine VC.regV ?_)
      | (refine vl_idx rfl rfl (by omega) ?_))
    refine vl_sts (⟨kk, kk + 1, x.b, x.c, x.n⟩) s1 (fun _ => rfl) (set_get (mid_get gx k)) (i := i) (j := 1) rfl rfl rfl rfl (Nat.le_of_ble_eq_true rfl) rfl (fun M2 o2 s2 => ?_)
    rw [List.set_set] at s2
    repeat' (first
      | (refine vl_add rfl rfl (by omega) ?_)
      | (refine vl_pure rfl ?_)
      | (refine vl_nil ?_)
      | (refine VC.seq ?_)
      | (refine VC.regV ?_)
      | (refine vl_idx rfl rfl (by omega) ?_))
    refine vl_sts (⟨kk, kk + 1, kk + 1 + 1, x.c, x.n⟩) s2 (fun _ => rfl) (set_get (mid_get gx k)) (i := i) (j := 2) rfl rfl rfl rfl (Nat.le_of_ble_eq_true rfl) rfl (fun M3 o3 s3 => ?_)
    rw [List.set_set] at s3
    repeat' (first
      | (refine vl_add rfl rfl (by omega) ?_)
      | (refine vl_pure rfl ?_)
      | (refine vl_nil ?_)
      | (refine VC.seq ?_)
      | (refine VC.regV ?_)
      | (refine vl_idx rfl rfl (by omega) ?_))
    refine vl_sts (⟨kk, kk + 1, kk + 1 + 1, kk + 1 + 1 + 1, x.n⟩) s3 (fun _ => rfl) (set_get (mid_get gx k)) (i := i) (j := 3) rfl rfl rfl rfl (Nat.le_of_ble_eq_true rfl) rfl (fun M4 o4 s4 => ?_)
    rw [List.set_set] at s4
    repeat' (first
      | (refine vl_add rfl rfl (by omega) ?_)
      | (refine vl_pure rfl ?_)
      | (refine vl_nil ?_)
      | (refine VC.seq ?_)
      | (refine VC.regV ?_)
      | (refine vl_idx rfl rfl (by omega) ?_))
    refine vl_sts (gA kk x) s4 (fun _ => rfl) (set_get (mid_get gx k)) (i := i) (j := 4) rfl rfl rfl rfl (Nat.le_of_ble_eq_true rfl) rfl (fun M5 o5 s5 => ?_)
    rw [List.set_set] at s5
    repeat' (first
      | (refine vl_add rfl rfl (by omega) ?_)
      | (refine vl_pure rfl ?_)
      | (refine vl_nil ?_)
      | (refine VC.regV ?_)
      | (refine seqQ_n ?_))
    refine ⟨_, (i + 1, _), _, ?_, ⟨rfl, rfl, rfl, trivial⟩, Mem.le_refl _, rfl, hi, ?_, (((((hoff.off o1 (by simp [own])).off o2 (by simp [own])).off o3 (by simp [own])).off o4 (by simp [own])).off o5 (by simp [own])), ?_⟩
    · dsimp only; omega
    · dsimp only; omega
    · rw [mid_set (g := gA) gx hkk rfl] at s5; exact s5
  · have hi : ¬ i < xs.length := by simpa using h
    repeat' (first
      | (refine vl_pure rfl ?_)
      | (refine vl_nil ?_)
      | (refine VC.seq ?_)
      | (refine VC.regV ?_)
      | (refine VC.ret ?_)
      | (refine VC.exit ?_))
    rw [List.drop_of_length_le (by omega), List.append_nil, List.take_of_length_le (by omega)] at hsl
    rw [List.take_of_length_le (by omega)] at hkk
    exact fnQ_r rfl (Mem.le_refl _) ⟨by rw [hkk], hoff, hsl⟩

theorem heldWordS_q {M : Mem} {va : Value} {xs : List Word} {k : Int} (h0 : 0 ≤ k) (hb : mkT wW k xs ≤ 4611686018427387904) (ha : Sl M 3 wv va (mkG gW wW k xs)) :
    Qt Try.prog 78 [va, .int .i64 k] M (.int .i64 (mkT wW k xs)) := by
  obtain ⟨aa, ca, ea⟩ := ha.len
  have hbd := ha.bound
  rw [mkG_len] at ea hbd
  refine fn78 (by simp) ?_
  subst ea
  repeat' (first
    | (refine vl_pure rfl ?_)
    | (refine vl_nil ?_)
    | (refine VC.seq ?_)
    | (refine VC.regV ?_)
    | (refine VC.block ?_))
  refine VC.loop (α := Nat × Int) (fun p => [(0, .v (.slice aa xs.length ca)), (1, .v (.int .i64 p.2)), (5, .v (.int .i64 p.1))]) (fun n p M' => n = xs.length - p.1 ∧ p.1 ≤ xs.length ∧ p.2 = mkT wW k (xs.take p.1) ∧ M' = M)
    ⟨_, (0, k), M, ⟨rfl, rfl, rfl, trivial⟩, Mem.le_refl _, rfl, Nat.zero_le _, rfl, rfl⟩ ?_
  rintro n ⟨i, kk⟩ M2 ⟨rfl, hi, hkk, rfl⟩
  dsimp only at hi hkk ⊢
  repeat' (first
    | (refine vl_pure rfl ?_)
    | (refine vl_nil ?_)
    | (refine VC.seq ?_)
    | (refine VC.regV ?_)
    | (refine seqQ_n ?_))
  refine VC.cond _ rfl (fun h => ?_) (fun h => ?_)
  · have hi : i < xs.length := by simpa using h
    obtain ⟨x, gx⟩ : ∃ x, xs[i]? = some x := ⟨_, List.getElem?_eq_getElem hi⟩
    obtain ⟨b, o, rfl, c1⟩ := ha.at2 (fun _ => rfl) (mkG_get gx k)
    rw [← hkk] at c1
    have hk1 := mkT_take (w := wW) gx k
    have hk2 := mkT_le (w := wW) (fun _ => by unfold wW; omega) xs k (i + 1)
    have hk3 := mkT_ge (w := wW) (fun _ => by unfold wW; omega) (xs.take i) k
    have hwx : wW x = 3 := rfl
    repeat' (first
      | (refine vl_add rfl rfl (by omega) ?_)
      | (refine vl_pure rfl ?_)
      | (refine vl_ld rfl (by first | exact cells_cell c1 (j := 0) rfl | exact cells_cell c1 (j := 1) rfl | exact cells_cell c1 (j := 2) rfl) ?_)
      | (refine vl_nil ?_)
      | (refine VC.seq ?_)
      | (refine VC.regV ?_)
      | (refine vl_idx rfl rfl (by omega) ?_)
      | (refine VC.block ?_)
      | (refine VC.ret ?_)
      | (refine VC.skip ?_)
      | (refine seqQ_n ?_)
      | (refine seqQ_r ?_)
      | (refine blkQ_r ?_)
      | (refine VC.cond _ rfl (fun hb => ?_) (fun hb => ?_)))
    any_goals (simp [gW] at hb; done)
    refine ⟨_, (i + 1, _), _, ?_, ⟨rfl, rfl, rfl, trivial⟩, Mem.le_refl _, rfl, hi, ?_, rfl⟩
    · dsimp only; omega
    · dsimp only; omega
  · have hi : ¬ i < xs.length := by simpa using h
    repeat' (first
      | (refine vl_pure rfl ?_)
      | (refine vl_nil ?_)
      | (refine VC.seq ?_)
      | (refine VC.regV ?_)
      | (refine VC.ret ?_)
      | (refine VC.exit ?_))
    rw [List.take_of_length_le (by omega)] at hkk
    exact fnQ_r rfl (Mem.le_refl _) ⟨by rw [hkk], rfl⟩
theorem heldPairS_q {M : Mem} {va : Value} {xs : List Pair} {k : Int} (h0 : 0 ≤ k) (hb : mkT wP k xs ≤ 4611686018427387904) (ha : Sl M 6 pv va (mkG gP wP k xs)) :
    Qt Try.prog 132 [va, .int .i64 k] M (.int .i64 (mkT wP k xs)) := by
  obtain ⟨aa, ca, ea⟩ := ha.len
  have hbd := ha.bound
  rw [mkG_len] at ea hbd
  refine fn132 (by simp) ?_
  subst ea
  repeat' (first
    | (refine vl_pure rfl ?_)
    | (refine vl_nil ?_)
    | (refine VC.seq ?_)
    | (refine VC.regV ?_)
    | (refine VC.block ?_))
  refine VC.loop (α := Nat × Int) (fun p => [(0, .v (.slice aa xs.length ca)), (1, .v (.int .i64 p.2)), (5, .v (.int .i64 p.1))]) (fun n p M' => n = xs.length - p.1 ∧ p.1 ≤ xs.length ∧ p.2 = mkT wP k (xs.take p.1) ∧ M' = M)
    ⟨_, (0, k), M, ⟨rfl, rfl, rfl, trivial⟩, Mem.le_refl _, rfl, Nat.zero_le _, rfl, rfl⟩ ?_
  rintro n ⟨i, kk⟩ M2 ⟨rfl, hi, hkk, rfl⟩
  dsimp only at hi hkk ⊢
  repeat' (first
    | (refine vl_pure rfl ?_)
    | (refine vl_nil ?_)
    | (refine VC.seq ?_)
    | (refine VC.regV ?_)
    | (refine seqQ_n ?_))
  refine VC.cond _ rfl (fun h => ?_) (fun h => ?_)
  · have hi : i < xs.length := by simpa using h
    obtain ⟨x, gx⟩ : ∃ x, xs[i]? = some x := ⟨_, List.getElem?_eq_getElem hi⟩
    obtain ⟨b, o, rfl, c1⟩ := ha.at2 (fun _ => rfl) (mkG_get gx k)
    rw [← hkk] at c1
    have hk1 := mkT_take (w := wP) gx k
    have hk2 := mkT_le (w := wP) (fun _ => by unfold wP; omega) xs k (i + 1)
    have hk3 := mkT_ge (w := wP) (fun _ => by unfold wP; omega) (xs.take i) k
    have hwx : wP x = 6 := rfl
    repeat' (first
      | (refine vl_add rfl rfl (by omega) ?_)
      | (refine vl_pure rfl ?_)
      | (refine vl_ld rfl (by first | exact cells_cell c1 (j := 0) rfl | exact cells_cell c1 (j := 1) rfl | exact cells_cell c1 (j := 2) rfl | exact cells_cell c1 (j := 3) rfl | exact cells_cell c1 (j := 4) rfl | exact cells_cell c1 (j := 5) rfl) ?_)
      | (refine vl_nil ?_)
      | (refine VC.seq ?_)
      | (refine VC.regV ?_)
      | (refine vl_idx rfl rfl (by omega) ?_)
      | (refine VC.block ?_)
      | (refine VC.ret ?_)
      | (refine VC.skip ?_)
      | (refine seqQ_n ?_)
      | (refine seqQ_r ?_)
      | (refine blkQ_r ?_)
      | (refine VC.cond _ rfl (fun hb => ?_) (fun hb => ?_)))
    any_goals (simp [gP] at hb; done)
    refine ⟨_, (i + 1, _), _, ?_, ⟨rfl, rfl, rfl, trivial⟩, Mem.le_refl _, rfl, hi, ?_, rfl⟩
    · dsimp only; omega
    · dsimp only; omega
  · have hi : ¬ i < xs.length := by simpa using h
    repeat' (first
      | (refine vl_pure rfl ?_)
      | (refine vl_nil ?_)
      | (refine VC.seq ?_)
      | (refine VC.regV ?_)
      | (refine VC.ret ?_)
      | (refine VC.exit ?_))
    rw [List.take_of_length_le (by omega)] at hkk
    exact fnQ_r rfl (Mem.le_refl _) ⟨by rw [hkk], rfl⟩
theorem heldIntS_q {M : Mem} {va : Value} {xs : List Int} {k : Int} (h0 : 0 ≤ k) (hb : mkT wI k xs ≤ 4611686018427387904) (ha : Sl M 1 iv va (mkG gI wI k xs)) :
    Qt Try.prog 80 [va, .int .i64 k] M (.int .i64 (mkT wI k xs)) := by
  obtain ⟨aa, ca, ea⟩ := ha.len
  have hbd := ha.bound
  rw [mkG_len] at ea hbd
  refine fn80 (by simp) ?_
  subst ea
  repeat' (first
    | (refine vl_pure rfl ?_)
    | (refine vl_nil ?_)
    | (refine VC.seq ?_)
    | (refine VC.regV ?_)
    | (refine VC.block ?_))
  refine VC.loop (α := Nat × Int) (fun p => [(0, .v (.slice aa xs.length ca)), (1, .v (.int .i64 p.2)), (5, .v (.int .i64 p.1))]) (fun n p M' => n = xs.length - p.1 ∧ p.1 ≤ xs.length ∧ p.2 = mkT wI k (xs.take p.1) ∧ M' = M)
    ⟨_, (0, k), M, ⟨rfl, rfl, rfl, trivial⟩, Mem.le_refl _, rfl, Nat.zero_le _, rfl, rfl⟩ ?_
  rintro n ⟨i, kk⟩ M2 ⟨rfl, hi, hkk, rfl⟩
  dsimp only at hi hkk ⊢
  repeat' (first
    | (refine vl_pure rfl ?_)
    | (refine vl_nil ?_)
    | (refine VC.seq ?_)
    | (refine VC.regV ?_)
    | (refine seqQ_n ?_))
  refine VC.cond _ rfl (fun h => ?_) (fun h => ?_)
  · have hi : i < xs.length := by simpa using h
    obtain ⟨x, gx⟩ : ∃ x, xs[i]? = some x := ⟨_, List.getElem?_eq_getElem hi⟩
    obtain ⟨b, o, rfl, c1⟩ := ha.at2 (fun _ => rfl) (mkG_get gx k)
    rw [← hkk] at c1
    have hk1 := mkT_take (w := wI) gx k
    have hk2 := mkT_le (w := wI) (fun _ => by unfold wI; omega) xs k (i + 1)
    have hk3 := mkT_ge (w := wI) (fun _ => by unfold wI; omega) (xs.take i) k
    have hwx : wI x = 1 := rfl
    repeat' (first
      | (refine vl_add rfl rfl (by omega) ?_)
      | (refine vl_pure rfl ?_)
      | (refine vl_ld rfl (by first | exact cells_cell c1 (j := 0) rfl) ?_)
      | (refine vl_nil ?_)
      | (refine VC.seq ?_)
      | (refine VC.regV ?_)
      | (refine vl_idx rfl rfl (by omega) ?_)
      | (refine VC.block ?_)
      | (refine VC.ret ?_)
      | (refine VC.skip ?_)
      | (refine seqQ_n ?_)
      | (refine seqQ_r ?_)
      | (refine blkQ_r ?_)
      | (refine VC.cond _ rfl (fun hb => ?_) (fun hb => ?_)))
    any_goals (simp [gI] at hb; done)
    refine ⟨_, (i + 1, _), _, ?_, ⟨rfl, rfl, rfl, trivial⟩, Mem.le_refl _, rfl, hi, ?_, rfl⟩
    · dsimp only; omega
    · dsimp only; omega
  · have hi : ¬ i < xs.length := by simpa using h
    repeat' (first
      | (refine vl_pure rfl ?_)
      | (refine vl_nil ?_)
      | (refine VC.seq ?_)
      | (refine VC.regV ?_)
      | (refine VC.ret ?_)
      | (refine VC.exit ?_))
    rw [List.take_of_length_le (by omega)] at hkk
    exact fnQ_r rfl (Mem.le_refl _) ⟨by rw [hkk], rfl⟩
theorem heldBoolS_q {M : Mem} {va : Value} {xs : List Bool} {k : Int} (h0 : 0 ≤ k) (hb : mkT wB k xs ≤ 4611686018427387904) (ha : Sl M 1 bv va (mkG gB wB k xs)) :
    Qt Try.prog 48 [va, .int .i64 k] M (.int .i64 (mkT wB k xs)) := by
  obtain ⟨aa, ca, ea⟩ := ha.len
  have hbd := ha.bound
  rw [mkG_len] at ea hbd
  refine fn48 (by simp) ?_
  subst ea
  repeat' (first
    | (refine vl_pure rfl ?_)
    | (refine vl_nil ?_)
    | (refine VC.seq ?_)
    | (refine VC.regV ?_)
    | (refine VC.block ?_))
  refine VC.loop (α := Nat × Int) (fun p => [(0, .v (.slice aa xs.length ca)), (1, .v (.int .i64 p.2)), (5, .v (.int .i64 p.1))]) (fun n p M' => n = xs.length - p.1 ∧ p.1 ≤ xs.length ∧ p.2 = mkT wB k (xs.take p.1) ∧ M' = M)
    ⟨_, (0, k), M, ⟨rfl, rfl, rfl, trivial⟩, Mem.le_refl _, rfl, Nat.zero_le _, rfl, rfl⟩ ?_
  rintro n ⟨i, kk⟩ M2 ⟨rfl, hi, hkk, rfl⟩
  dsimp only at hi hkk ⊢
  repeat' (first
    | (refine vl_pure rfl ?_)
    | (refine vl_nil ?_)
    | (refine VC.seq ?_)
    | (refine VC.regV ?_)
    | (refine seqQ_n ?_))
  refine VC.cond _ rfl (fun h => ?_) (fun h => ?_)
  · have hi : i < xs.length := by simpa using h
    obtain ⟨x, gx⟩ : ∃ x, xs[i]? = some x := ⟨_, List.getElem?_eq_getElem hi⟩
    obtain ⟨b, o, rfl, c1⟩ := ha.at2 (fun _ => rfl) (mkG_get gx k)
    rw [← hkk] at c1
    have hk1 := mkT_take (w := wB) gx k
    have hk2 := mkT_le (w := wB) (fun _ => by unfold wB; omega) xs k (i + 1)
    have hk3 := mkT_ge (w := wB) (fun _ => by unfold wB; omega) (xs.take i) k
    have hwx : wB x = 1 := rfl
    repeat' (first
      | (refine vl_add rfl rfl (by omega) ?_)
      | (refine vl_pure rfl ?_)
      | (refine vl_ld rfl (by first | exact cells_cell c1 (j := 0) rfl) ?_)
      | (refine vl_nil ?_)
      | (refine VC.seq ?_)
      | (refine VC.regV ?_)
      | (refine vl_idx rfl rfl (by omega) ?_)
      | (refine VC.block ?_)
      | (refine VC.ret ?_)
      | (refine VC.skip ?_)
      | (refine seqQ_n ?_)
      | (refine seqQ_r ?_)
      | (refine blkQ_r ?_)
      | (refine VC.cond _ rfl (fun hb => ?_) (fun hb => ?_)))
    any_goals (simp [gB] at hb; done)
    refine ⟨_, (i + 1, _), _, ?_, ⟨rfl, rfl, rfl, trivial⟩, Mem.le_refl _, rfl, hi, ?_, rfl⟩
    · dsimp only; omega
    · dsimp only; omega
  · have hi : ¬ i < xs.length := by simpa using h
    repeat' (first
      | (refine vl_pure rfl ?_)
      | (refine vl_nil ?_)
      | (refine VC.seq ?_)
      | (refine VC.regV ?_)
      | (refine VC.ret ?_)
      | (refine VC.exit ?_))
    rw [List.take_of_length_le (by omega)] at hkk
    exact fnQ_r rfl (Mem.le_refl _) ⟨by rw [hkk], rfl⟩
theorem heldActS_q {M : Mem} {va : Value} {xs : List Act} {k : Int} (h0 : 0 ≤ k) (hb : mkT wA k xs ≤ 4611686018427387904) (ha : Sl M 5 av va (mkG gA wA k xs)) :
    Qt Try.prog 24 [va, .int .i64 k] M (.int .i64 (mkT wA k xs)) := by
  obtain ⟨aa, ca, ea⟩ := ha.len
  have hbd := ha.bound
  rw [mkG_len] at ea hbd
  refine fn24 (by simp) ?_
  subst ea
  repeat' (first
    | (refine vl_pure rfl ?_)
    | (refine vl_nil ?_)
    | (refine VC.seq ?_)
    | (refine VC.regV ?_)
    | (refine VC.block ?_))
  refine VC.loop (α := Nat × Int) (fun p => [(0, .v (.slice aa xs.length ca)), (1, .v (.int .i64 p.2)), (5, .v (.int .i64 p.1))]) (fun n p M' => n = xs.length - p.1 ∧ p.1 ≤ xs.length ∧ p.2 = mkT wA k (xs.take p.1) ∧ M' = M)
    ⟨_, (0, k), M, ⟨rfl, rfl, rfl, trivial⟩, Mem.le_refl _, rfl, Nat.zero_le _, rfl, rfl⟩ ?_
  rintro n ⟨i, kk⟩ M2 ⟨rfl, hi, hkk, rfl⟩
  dsimp only at hi hkk ⊢
  repeat' (first
    | (refine vl_pure rfl ?_)
    | (refine vl_nil ?_)
    | (refine VC.seq ?_)
    | (refine VC.regV ?_)
    | (refine seqQ_n ?_))
  refine VC.cond _ rfl (fun h => ?_) (fun h => ?_)
  · have hi : i < xs.length := by simpa using h
    obtain ⟨x, gx⟩ : ∃ x, xs[i]? = some x := ⟨_, List.getElem?_eq_getElem hi⟩
    obtain ⟨b, o, rfl, c1⟩ := ha.at2 (fun _ => rfl) (mkG_get gx k)
    rw [← hkk] at c1
    have hk1 := mkT_take (w := wA) gx k
    have hk2 := mkT_le (w := wA) (fun _ => by unfold wA; omega) xs k (i + 1)
    have hk3 := mkT_ge (w := wA) (fun _ => by unfold wA; omega) (xs.take i) k
    have hwx : wA x = 5 := rfl
    repeat' (first
      | (refine vl_add rfl rfl (by omega) ?_)
      | (refine vl_pure rfl ?_)
      | (refine vl_ld rfl (by first | exact cells_cell c1 (j := 0) rfl | exact cells_cell c1 (j := 1) rfl | exact cells_cell c1 (j := 2) rfl | exact cells_cell c1 (j := 3) rfl | exact cells_cell c1 (j := 4) rfl) ?_)
      | (refine vl_nil ?_)
      | (refine VC.seq ?_)
      | (refine VC.regV ?_)
      | (refine vl_idx rfl rfl (by omega) ?_)
      | (refine VC.block ?_)
      | (refine VC.ret ?_)
      | (refine VC.skip ?_)
      | (refine seqQ_n ?_)
      | (refine seqQ_r ?_)
      | (refine blkQ_r ?_)
      | (refine VC.cond _ rfl (fun hb => ?_) (fun hb => ?_)))
    any_goals (simp [gA] at hb; done)
    refine ⟨_, (i + 1, _), _, ?_, ⟨rfl, rfl, rfl, trivial⟩, Mem.le_refl _, rfl, hi, ?_, rfl⟩
    · dsimp only; omega
    · dsimp only; omega
  · have hi : ¬ i < xs.length := by simpa using h
    repeat' (first
      | (refine vl_pure rfl ?_)
      | (refine vl_nil ?_)
      | (refine VC.seq ?_)
      | (refine VC.regV ?_)
      | (refine VC.ret ?_)
      | (refine VC.exit ?_))
    rw [List.take_of_length_le (by omega)] at hkk
    exact fnQ_r rfl (Mem.le_refl _) ⟨by rw [hkk], rfl⟩

end Go.Proofs.Ytcmllambknfleaa.E
/- The laws' marks of cells and heaps. Conditions: none. -/
set_option linter.unusedVariables false
set_option linter.unusedSimpArgs false
set_option maxRecDepth 100000
namespace Go.Proofs.Ytcmllambknfleaa.E
open Go
open Classical
theorem Sl.congr {M : Mem} {α : Type} {f : α → List Value} {size : Nat} {v : Value} {xs ys : List α} (h : Sl M size f v xs) (e : xs.map f = ys.map f) : Sl M size f v ys := by
  have hl : xs.length = ys.length := by have := congrArg List.length e; simpa using this
  have hf : xs.flatMap f = ys.flatMap f := by rw [List.flatMap_def, List.flatMap_def, e]
  rcases h with ⟨c, h1, h2, rfl⟩ | ⟨b, o, cap, row, h1, hM, hc, h2, hr, he⟩
  · exact .inl ⟨c, h1, h2, by cases ys with | nil => rfl | cons y r => simp at hl⟩
  · rw [hl] at h1 hc h2 he
    exact .inr ⟨b, o, cap, row, h1, hM, hc, h2, hr, by rw [he, hf]⟩
def gC (k : Int) (c : Cell) : Cell := ⟨k, k + 1, k + 1 + 1, k + 1 + 1 + 1, k + 1 + 1 + 1 + 1, k + 1 + 1 + 1 + 1 + 1, k + 1 + 1 + 1 + 1 + 1 + 1, mkG gP wP (k + 1 + 1 + 1 + 1 + 1 + 1 + 1) c.pairs⟩
def wC (c : Cell) : Int := 7 + 6 * c.pairs.length
def gCS (k : Int) (y : CS) : CS := ⟨gC k y.c, y.sa, y.cap⟩
def wCS (y : CS) : Int := wC y.c
/-- scalars of a cell that are marked, the pairs as they are -/
def hCS (k : Int) (y : CS) : CS := ⟨⟨k, k + 1, k + 1 + 1, k + 1 + 1 + 1, k + 1 + 1 + 1 + 1, k + 1 + 1 + 1 + 1 + 1, k + 1 + 1 + 1 + 1 + 1 + 1, y.c.pairs⟩, y.sa, y.cap⟩
theorem csv_hCS (k : Int) (y : CS) : csv (hCS k y) = csv (gCS k y) := by
  simp only [csv, cv, hCS, gCS, gC, mkG_len]
theorem gCS_s (k : Int) (y : CS) : (gCS k y).s = y.s := by simp only [CS.s, gCS, gC, mkG_len]
theorem wCS_nn (y : CS) : 0 ≤ wCS y := by unfold wCS wC; omega
theorem wP_T (xs : List Pair) (k : Int) : mkT wP k xs = k + 6 * xs.length := mkT_const (w := wP) (c := 6) (fun _ => rfl) xs k
theorem mkG_gCS_c : ∀ (xs : List CS) (k : Int), (mkG gCS wCS k xs).map (·.c) = mkG gC wC k (xs.map (·.c))
  | [], _ => rfl
  | x :: r, k => by simp only [mkG, List.map_cons]; rw [mkG_gCS_c r]; rfl
theorem mkT_wCS : ∀ (xs : List CS) (k : Int), mkT wCS k xs = mkT wC k (xs.map (·.c))
  | [], _ => rfl
  | x :: r, k => by simp only [mkT, List.map_cons]; rw [mkT_wCS r]; rfl
theorem mkG_own : ∀ (xs : List CS) (k : Int), ((mkG gCS wCS k xs).flatMap fun y => own y.s) = xs.flatMap fun y => own y.s
  | [], _ => rfl
  | x :: r, k => by simp only [mkG, List.flatMap_cons, gCS_s]; rw [mkG_own r]
theorem flat_apart {α β : Type} {f : α → List β} : ∀ {xs : List α} {i j : Nat} {x y : α}, (xs.flatMap f).Nodup → xs[i]? = some x → xs[j]? = some y → i ≠ j → ∀ b, b ∈ f x → b ∉ f y
  | [], i, _, x, _, _, h, _, _, _, _, _ => by simp at h
  | z :: r, i, j, x, y, hn, hi, hj, hij, b, hb, hc => by
    rw [List.flatMap_cons, List.nodup_append] at hn
    obtain ⟨_, hr, hd⟩ := hn
    cases i with
    | zero =>
      cases j with
      | zero => exact hij rfl
      | succ j =>
        simp only [List.getElem?_cons_zero, Option.some.injEq] at hi
        simp only [List.getElem?_cons_succ] at hj
        subst hi
        exact hd b hb b (List.mem_flatMap.2 ⟨y, List.mem_of_getElem? hj, hc⟩) rfl
    | succ i =>
      simp only [List.getElem?_cons_succ] at hi
      cases j with
      | zero =>
        simp only [List.getElem?_cons_zero, Option.some.injEq] at hj
        subst hj
        exact hd b hc b (List.mem_flatMap.2 ⟨x, List.mem_of_getElem? hi, hb⟩) rfl
      | succ j =>
        simp only [List.getElem?_cons_succ] at hj
        exact flat_apart hr hi hj (by omega) b hb hc
theorem mid_own {xs : List CS} {i : Nat} {k : Int} : ((mkG gCS wCS k (xs.take i) ++ xs.drop i).flatMap fun y => own y.s) = xs.flatMap fun y => own y.s := by
  rw [List.flatMap_append, mkG_own, ← List.flatMap_append, List.take_append_drop]
theorem markCellS_f {M : Mem} {va : Value} {xs : List CS} {k : Int} (h0 : 0 ≤ k) (hb : mkT wCS k xs ≤ 4611686018427387904) (ha : CL M va xs) (hnd : (fpC va xs).Nodup) :
    Fn Try.prog 76 [va, .int .i64 k] M (fun v M' => v = .int .i64 (mkT wCS k xs) ∧ OffL M (fpC va xs) M' ∧ CL M' va (mkG gCS wCS k xs)) := by
  obtain ⟨aa, ca, ea⟩ := ha.sl.len
  have hbd := ha.sl.bound
  refine fn76 (by simp) ?_
  subst ea
  repeat' (first
    | (refine vl_pure rfl ?_)
    | (refine vl_nil ?_)
    | (refine VC.seq ?_)
    | (refine VC.regV ?_)
    | (refine VC.block ?_))
  refine VC.loop (α := Nat × Int) (fun p => [(0, .v (.slice aa xs.length ca)), (1, .v (.int .i64 p.2)), (5, .v (.int .i64 p.1))]) (fun n p M' => n = xs.length - p.1 ∧ p.1 ≤ xs.length ∧ p.2 = mkT wCS k (xs.take p.1) ∧ OffL M (fpC (.slice aa xs.length ca) xs) M' ∧ CL M' (.slice aa xs.length ca) (mkG gCS wCS k (xs.take p.1) ++ xs.drop p.1))
    ⟨_, (0, k), M, ⟨rfl, rfl, rfl, trivial⟩, Mem.le_refl _, rfl, Nat.zero_le _, rfl, OffL.refl _ _, ha⟩ ?_
  rintro n ⟨i, kk⟩ M2 ⟨rfl, hi, hkk, hoff, hcl⟩
  dsimp only at hi hkk hoff hcl ⊢
  repeat' (first
    | (refine vl_pure rfl ?_)
    | (refine vl_nil ?_)
    | (refine VC.seq ?_)
    | (refine VC.regV ?_)
    | (refine seqQ_n ?_))
  refine VC.cond _ rfl (fun h => ?_) (fun h => ?_)
  · have hi : i < xs.length := by simpa using h
    obtain ⟨x, gx⟩ : ∃ x, xs[i]? = some x := ⟨_, List.getElem?_eq_getElem hi⟩
    obtain ⟨hsl, hps⟩ := hcl
    obtain ⟨b, o, rfl, c1⟩ := hsl.at2 (fun _ => rfl) (mid_get gx k)
    have hk1 := mkT_take (w := wCS) gx k
    have hk2 := mkT_le (w := wCS) wCS_nn xs k (i + 1)
    have hk3 := mkT_ge (w := wCS) wCS_nn (xs.take i) k
    have hwx : wCS x = 7 + 6 * x.c.pairs.length := rfl
    repeat' (first
      | (refine vl_pure rfl ?_)
      | (refine VC.seq ?_)
      | (refine VC.regV ?_)
      | (refine vl_idx rfl rfl (by omega) ?_)
      | (refine VC.block ?_)
      | (refine VC.skip ?_))
    refine vl_sts ⟨⟨kk, x.c.kind, x.c.weak, x.c.last, x.c.born, x.c.color, x.c.to, x.c.pairs⟩, x.sa, x.cap⟩ hsl (fun _ => rfl) (mid_get gx k) (i := i) (j := 0) rfl rfl rfl rfl (Nat.le_of_ble_eq_true rfl) rfl (fun M3 o3 s3 => ?_)
    repeat' (first
      | (refine vl_add rfl rfl (by omega) ?_)
      | (refine vl_pure rfl ?_)
      | (refine vl_nil ?_)
      | (refine VC.seq ?_)
      | (refine VC.regV ?_)
      | (refine vl_idx rfl rfl (by omega) ?_))
    refine vl_sts ⟨⟨kk, kk + 1, x.c.weak, x.c.last, x.c.born, x.c.color, x.c.to, x.c.pairs⟩, x.sa, x.cap⟩ s3 (fun _ => rfl) (set_get (mid_get gx k)) (i := i) (j := 1) rfl rfl rfl rfl (Nat.le_of_ble_eq_true rfl) rfl (fun M4 o4 s4 => ?_)
    rw [List.set_set] at s4
    repeat' (first
      | (refine vl_add rfl rfl (by omega) ?_)
      | (refine vl_pure rfl ?_)
      | (refine vl_nil ?_)
      | (refine VC.seq ?_)
      | (refine VC.regV ?_)
      | (refine vl_idx rfl rfl (by omega) ?_))
    refine vl_sts ⟨⟨kk, kk + 1, kk + 1 + 1, x.c.last, x.c.born, x.c.color, x.c.to, x.c.pairs⟩, x.sa, x.cap⟩ s4 (fun _ => rfl) (set_get (mid_get gx k)) (i := i) (j := 2) rfl rfl rfl rfl (Nat.le_of_ble_eq_true rfl) rfl (fun M5 o5 s5 => ?_)
    rw [List.set_set] at s5
    repeat' (first
      | (refine vl_add rfl rfl (by omega) ?_)
      | (refine vl_pure rfl ?_)
      | (refine vl_nil ?_)
      | (refine VC.seq ?_)
      | (refine VC.regV ?_)
      | (refine vl_idx rfl rfl (by omega) ?_))
    refine vl_sts ⟨⟨kk, kk + 1, kk + 1 + 1, kk + 1 + 1 + 1, x.c.born, x.c.color, x.c.to, x.c.pairs⟩, x.sa, x.cap⟩ s5 (fun _ => rfl) (set_get (mid_get gx k)) (i := i) (j := 3) rfl rfl rfl rfl (Nat.le_of_ble_eq_true rfl) rfl (fun M6 o6 s6 => ?_)
    rw [List.set_set] at s6
    repeat' (first
      | (refine vl_add rfl rfl (by omega) ?_)
      | (refine vl_pure rfl ?_)
      | (refine vl_nil ?_)
      | (refine VC.seq ?_)
      | (refine VC.regV ?_)
      | (refine vl_idx rfl rfl (by omega) ?_))
    refine vl_sts ⟨⟨kk, kk + 1, kk + 1 + 1, kk + 1 + 1 + 1, kk + 1 + 1 + 1 + 1, x.c.color, x.c.to, x.c.pairs⟩, x.sa, x.cap⟩ s6 (fun _ => rfl) (set_get (mid_get gx k)) (i := i) (j := 4) rfl rfl rfl rfl (Nat.le_of_ble_eq_true rfl) rfl (fun M7 o7 s7 => ?_)
    rw [List.set_set] at s7
    repeat' (first
      | (refine vl_add rfl rfl (by omega) ?_)
      | (refine vl_pure rfl ?_)
      | (refine vl_nil ?_)
      | (refine VC.seq ?_)
      | (refine VC.regV ?_)
      | (refine vl_idx rfl rfl (by omega) ?_))
    refine vl_sts ⟨⟨kk, kk + 1, kk + 1 + 1, kk + 1 + 1 + 1, kk + 1 + 1 + 1 + 1, kk + 1 + 1 + 1 + 1 + 1, x.c.to, x.c.pairs⟩, x.sa, x.cap⟩ s7 (fun _ => rfl) (set_get (mid_get gx k)) (i := i) (j := 5) rfl rfl rfl rfl (Nat.le_of_ble_eq_true rfl) rfl (fun M8 o8 s8 => ?_)
    rw [List.set_set] at s8
    repeat' (first
      | (refine vl_add rfl rfl (by omega) ?_)
      | (refine vl_pure rfl ?_)
      | (refine vl_nil ?_)
      | (refine VC.seq ?_)
      | (refine VC.regV ?_)
      | (refine vl_idx rfl rfl (by omega) ?_))
    refine vl_sts (hCS kk x) s8 (fun _ => rfl) (set_get (mid_get gx k)) (i := i) (j := 6) rfl rfl rfl rfl (Nat.le_of_ble_eq_true rfl) rfl (fun M9 o9 s9 => ?_)
    rw [List.set_set] at s9
    have oo : Off M2 b M9 := (((((o3.trans o4).trans o5).trans o6).trans o7).trans o8).trans o9
    obtain ⟨b', o', e', c2⟩ := s9.at2 (fun _ => rfl) (set_get (mid_get gx k))
    cases e'
    have hnc := (List.nodup_append.1 hnd)
    have hbo : own (.slice (some ⟨b, o, none⟩) xs.length ca) = [b] := rfl
    have hbn : ∀ (j : Nat) (y : CS), (mkG gCS wCS k (xs.take i) ++ xs.drop i)[j]? = some y → b ∉ own y.s := fun j y hj hm =>
      hnc.2.2 b (by rw [hbo]; simp) b (by rw [← mid_own (xs := xs) (i := i) (k := k)]; exact List.mem_flatMap.2 ⟨y, List.mem_of_getElem? hj, hm⟩) rfl
    have hpx : Sl M9 6 pv x.s x.c.pairs := (hps x (List.mem_of_getElem? (mid_get gx k))).off oo (hbn i x (mid_get gx k))
    have hT := wP_T x.c.pairs (kk + 1 + 1 + 1 + 1 + 1 + 1 + 1)
    have fp : cell M9 b (o + i * 8 + 7) = some x.s := cells_cell c2 (j := 7) rfl
    repeat' (first
      | (refine vl_add rfl rfl (by omega) ?_)
      | (refine vl_pure rfl ?_)
      | (refine vl_ld rfl (by first | exact fp) ?_)
      | (refine vl_nil ?_)
      | (refine VC.seq ?_)
      | (refine VC.regV ?_)
      | (refine vl_idx rfl rfl (by omega) ?_))
    refine vl_c rfl (markPairS_f (by omega) (by omega) hpx) (fun v M10 hq => ?_)
    obtain ⟨rfl, o10, s10⟩ := hq
    repeat' (first
      | (refine vl_add rfl rfl (by omega) ?_)
      | (refine vl_pure rfl ?_)
      | (refine vl_nil ?_)
      | (refine VC.regV ?_)
      | (refine seqQ_n ?_))
    
    have hsub : ∀ c, c ∈ own x.s → c ∈ fpC (.slice (some ⟨b, o, none⟩) xs.length ca) xs := fun c hc => by
      unfold fpC; exact List.mem_append.2 (.inr (List.mem_flatMap.2 ⟨x, List.mem_of_getElem? gx, hc⟩))
    have hsl10 := s9.offL o10 (fun c hc hc' => by
      rw [hbo] at hc; simp only [List.mem_singleton] at hc; subst hc
      exact hbn i x (mid_get gx k) hc')
    have hset : ((mkG gCS wCS k (xs.take i) ++ xs.drop i).set i (hCS kk x)).map csv = (mkG gCS wCS k (xs.take (i + 1)) ++ xs.drop (i + 1)).map csv := by
      rw [← mid_set (g := gCS) gx hkk rfl, List.map_set, List.map_set, csv_hCS]
    refine ⟨_, (i + 1, _), _, ?_, ⟨rfl, rfl, rfl, trivial⟩, Mem.le_refl _, rfl, hi, ?_, ?_, hsl10.congr hset, ?_⟩
    · dsimp only; omega
    · dsimp only; rw [hT]; omega
    · exact (hoff.off oo (by simp [fpC, hbo])).trans (o10.mono hsub)
    · intro y hy
      dsimp only at hy
      rw [← mid_set (g := gCS) gx hkk rfl] at hy
      obtain ⟨j, hj⟩ := List.mem_iff_getElem?.1 hy
      by_cases hji : j = i
      · subst hji
        rw [set_get (mid_get gx k)] at hj
        cases hj
        rw [gCS_s]; exact s10
      · rw [List.getElem?_set_ne (by omega)] at hj
        have := (hps y (List.mem_of_getElem? hj)).off oo (hbn j y hj)
        refine this.offL o10 (fun c hc hc' => ?_)
        have hnd2 : ((mkG gCS wCS k (xs.take i) ++ xs.drop i).flatMap fun (y : CS) => own y.s).Nodup := by rw [mid_own]; exact hnc.2.1
        exact flat_apart hnd2 hj (mid_get gx k) hji c hc hc'
  · have hi : ¬ i < xs.length := by simpa using h
    repeat' (first
      | (refine vl_pure rfl ?_)
      | (refine vl_nil ?_)
      | (refine VC.seq ?_)
      | (refine VC.regV ?_)
      | (refine VC.ret ?_)
      | (refine VC.exit ?_))
    rw [List.drop_of_length_le (by omega), List.append_nil, List.take_of_length_le (by omega)] at hcl
    rw [List.take_of_length_le (by omega)] at hkk
    exact fnQ_r rfl (Mem.le_refl _) ⟨by rw [hkk], hoff, hcl⟩
end Go.Proofs.Ytcmllambknfleaa.E
/- The laws' marks of heaps, written and found again. Conditions: none. -/
set_option linter.unusedVariables false
set_option linter.unusedSimpArgs false
set_option maxRecDepth 100000
namespace Go.Proofs.Ytcmllambknfleaa.E
open Go
open Classical
theorem heldCellS_q {M : Mem} {va : Value} {xs : List CS} {k : Int} (h0 : 0 ≤ k) (hb : mkT wCS k xs ≤ 4611686018427387904) (hcl : CL M va (mkG gCS wCS k xs)) :
    Qt Try.prog 79 [va, .int .i64 k] M (.int .i64 (mkT wCS k xs)) := by
  obtain ⟨ha, hps⟩ := hcl
  obtain ⟨aa, ca, ea⟩ := ha.len
  have hbd := ha.bound
  rw [mkG_len] at ea hbd
  refine fn79 (by simp) ?_
  subst ea
  repeat' (first
    | (refine vl_pure rfl ?_)
    | (refine vl_nil ?_)
    | (refine VC.seq ?_)
    | (refine VC.regV ?_)
    | (refine VC.block ?_))
  refine VC.loop (α := Nat × Int) (fun p => [(0, .v (.slice aa xs.length ca)), (1, .v (.int .i64 p.2)), (5, .v (.int .i64 p.1))]) (fun n p M' => n = xs.length - p.1 ∧ p.1 ≤ xs.length ∧ p.2 = mkT wCS k (xs.take p.1) ∧ M' = M)
    ⟨_, (0, k), M, ⟨rfl, rfl, rfl, trivial⟩, Mem.le_refl _, rfl, Nat.zero_le _, rfl, rfl⟩ ?_
  rintro n ⟨i, kk⟩ M2 ⟨rfl, hi, hkk, rfl⟩
  dsimp only at hi hkk ⊢
  repeat' (first
    | (refine vl_pure rfl ?_)
    | (refine vl_nil ?_)
    | (refine VC.seq ?_)
    | (refine VC.regV ?_)
    | (refine seqQ_n ?_))
  refine VC.cond _ rfl (fun h => ?_) (fun h => ?_)
  · have hi : i < xs.length := by simpa using h
    obtain ⟨x, gx⟩ : ∃ x, xs[i]? = some x := ⟨_, List.getElem?_eq_getElem hi⟩
    have hgm := List.mem_of_getElem? (mkG_get (g := gCS) (w := wCS) gx k)
    obtain ⟨b, o, rfl, c1⟩ := ha.at2 (fun _ => rfl) (mkG_get gx k)
    rw [← hkk] at c1 hgm
    have hk1 := mkT_take (w := wCS) gx k
    have hk2 := mkT_le (w := wCS) wCS_nn xs k (i + 1)
    have hk3 := mkT_ge (w := wCS) wCS_nn (xs.take i) k
    have hwx : wCS x = 7 + 6 * x.c.pairs.length := rfl
    have hT := wP_T x.c.pairs (kk + 1 + 1 + 1 + 1 + 1 + 1 + 1)
    have hp := hps _ hgm
    have q := heldPairS_q (k := kk + 1 + 1 + 1 + 1 + 1 + 1 + 1) (xs := x.c.pairs) (by omega) (by omega) hp
    repeat' (first
      | (refine vl_add rfl rfl (by omega) ?_)
      | (refine vl_pure rfl ?_)
      | (refine vl_ld rfl (by first | exact cells_cell c1 (j := 0) rfl | exact cells_cell c1 (j := 1) rfl | exact cells_cell c1 (j := 2) rfl | exact cells_cell c1 (j := 3) rfl | exact cells_cell c1 (j := 4) rfl | exact cells_cell c1 (j := 5) rfl | exact cells_cell c1 (j := 6) rfl | exact cells_cell c1 (j := 7) rfl) ?_)
      | (refine vl_nil ?_)
      | (refine VC.seq ?_)
      | (refine VC.regV ?_)
      | (refine vl_idx rfl rfl (by omega) ?_)
      | (refine vl_cq rfl (q) ?_)
      | (refine VC.block ?_)
      | (refine VC.ret ?_)
      | (refine VC.skip ?_)
      | (refine seqQ_n ?_)
      | (refine seqQ_r ?_)
      | (refine blkQ_r ?_)
      | (refine VC.cond _ rfl (fun hb => ?_) (fun hb => ?_)))
    any_goals (simp [gCS, gC] at hb; done)
    any_goals (simp at hb; omega)
    refine ⟨_, (i + 1, _), _, ?_, ⟨rfl, rfl, rfl, trivial⟩, Mem.le_refl _, rfl, hi, ?_, rfl⟩
    · dsimp only; omega
    · dsimp only; rw [hT]; omega
  · have hi : ¬ i < xs.length := by simpa using h
    repeat' (first
      | (refine vl_pure rfl ?_)
      | (refine vl_nil ?_)
      | (refine VC.seq ?_)
      | (refine VC.regV ?_)
      | (refine VC.ret ?_)
      | (refine VC.exit ?_))
    rw [List.take_of_length_le (by omega)] at hkk
    exact fnQ_r rfl (Mem.le_refl _) ⟨by rw [hkk], rfl⟩
/-- what marks make of a heap, and where they end -/
def gH (k : Int) (x : HS) : HS :=
  ⟨{ x.H with regs := mkG gW wW k x.H.regs, cells := mkG gC wC (mkT wW k x.H.regs) x.H.cells, gray := mkG gI wI (mkT wC (mkT wW k x.H.regs) x.H.cells) x.H.gray }, x.rs, x.cs, x.gs, mkG gCS wCS (mkT wW k x.H.regs) x.xs⟩
def endH (k : Int) (H : Heap) : Int := mkT wI (mkT wC (mkT wW k H.regs) H.cells) H.gray
theorem wC_nn (c : Cell) : 0 ≤ wC c := by unfold wC; omega
theorem mkT_wC : ∀ (cs : List Cell) (k : Int), mkT wC k cs = k + 7 * cs.length + 6 * pairsN cs
  | [], k => by simp [mkT, pairsN]
  | c :: r, k => by
    have e : pairsN (c :: r) = c.pairs.length + pairsN r := by simp [pairsN]
    simp only [mkT, List.length_cons, e]; rw [mkT_wC r]; simp only [wC, Int.natCast_add]; omega
theorem endH_eq (k : Int) (H : Heap) : endH k H = k + 3 * H.regs.length + 7 * H.cells.length + 6 * pairsN H.cells + H.gray.length := by
  unfold endH
  rw [mkT_const (w := wI) (c := 1) (fun _ => rfl), mkT_wC, mkT_const (w := wW) (c := 3) (fun _ => rfl)]; omega
theorem markHeap_f {M : Mem} {x : HS} {k : Int} (h0 : 0 ≤ k) (hb : endH k x.H ≤ 4611686018427387904) (hx : WHV M x) :
    Fn Try.prog 28 [x.v, .int .i64 k] M (fun v M' => v = .int .i64 (endH k x.H) ∧ OffL M x.fp M' ∧ RHV M' (gH k x)) := by
  have hp := pairsN_nonneg x.H.cells
  have e0 := endH_eq k x.H
  have e1 := mkT_const (w := wW) (c := 3) (fun _ => rfl) x.H.regs k
  have e2 := mkT_wC x.H.cells (mkT wW k x.H.regs)
  have e3 := mkT_const (w := wI) (c := 1) (fun _ => rfl) x.H.gray (mkT wC (mkT wW k x.H.regs) x.H.cells)
  have e4 := mkT_wCS x.xs (mkT wW k x.H.regs)
  rw [hx.r.eq] at e4
  have hnd := hx.nd
  simp only [HS.fp, List.nodup_append] at hnd
  obtain ⟨_, ⟨hn2, _, hn3⟩, hn1⟩ := hnd
  refine fn28 (by simp) ?_
  repeat' (first
    | (refine vl_pure rfl ?_)
    | (refine vl_nil ?_)
    | (refine VC.seq ?_)
    | (refine VC.regV ?_)
    | (refine vl_box rfl rfl ?_))
  refine vl_c rfl (markWordS_f h0 (by omega) hx.r.regs) (fun v M1 hq => ?_)
  obtain ⟨rfl, o1, s1⟩ := hq
  repeat' (first
    | (refine vl_pure rfl ?_)
    | (refine vl_nil ?_)
    | (refine VC.seq ?_)
    | (refine VC.regV ?_))
  have c1 : CL M1 x.cs x.xs := ⟨hx.r.cl.sl.offL o1 (fun b h h' => hn1 b h' b (by simp [fpC, h]) rfl), fun y hy => (hx.r.cl.ps y hy).offL o1 (fun b h h' => hn1 b h' b (by
    simp only [fpC, List.mem_append, List.mem_flatMap]; exact .inl (.inr ⟨y, hy, h⟩)) rfl)⟩
  have g1 := hx.r.gray.offL o1 (fun b h h' => hn1 b h' b (by simp [h]) rfl)
  refine vl_c rfl (markCellS_f (k := mkT wW k x.H.regs) (by omega) (by omega) c1 hn2) (fun v M2 hq => ?_)
  obtain ⟨rfl, o2, s2⟩ := hq
  repeat' (first
    | (refine vl_pure rfl ?_)
    | (refine vl_nil ?_)
    | (refine VC.seq ?_)
    | (refine VC.regV ?_))
  have g2 := g1.offL o2 (fun b h h' => hn3 b h' b h rfl)
  have r2 := s1.offL o2 (fun b h h' => hn1 b h b (by simp [h']) rfl)
  rw [e4]
  refine vl_c rfl (markIntS_f (by omega) (by omega) g2) (fun v M3 hq => ?_)
  obtain ⟨rfl, o3, s3⟩ := hq
  repeat' (first
    | (refine vl_pure rfl ?_)
    | (refine vl_nil ?_)
    | (refine VC.seq ?_)
    | (refine VC.regV ?_)
    | (refine VC.ret ?_))
  refine fnQ_r rfl (Mem.le_refl _) ⟨rfl, ?_, ⟨r2.offL o3 (fun b h h' => hn1 b h b (by simp [h']) rfl), ⟨s2.sl.offL o3 (fun b h h' => hn3 b (by simp [fpC, h]) b h' rfl), fun y hy => (s2.ps y hy).offL o3 (fun b h h' => hn3 b ?_ b h' rfl)⟩, ?_, s3⟩⟩
  · refine ((o1.mono (fun b h => ?_)).trans (o2.mono (fun b h => ?_))).trans (o3.mono (fun b h => ?_)) <;> simp [HS.fp, h]
  · refine List.mem_append.2 (.inr ?_)
    rw [← mkG_own (k := mkT wW k x.H.regs)]
    exact List.mem_flatMap.2 ⟨y, hy, h⟩
  · show (mkG gCS wCS _ x.xs).map (·.c) = _
    rw [mkG_gCS_c, hx.r.eq]; rfl
theorem heldHeap_q {M : Mem} {x : HS} {k : Int} (h0 : 0 ≤ k) (hb : endH k x.H ≤ 4611686018427387904) (he : x.xs.map (·.c) = x.H.cells) (hx : RHV M (gH k x)) :
    Qt Try.prog 29 [(gH k x).v, .int .i64 k] M (.int .i64 (endH k x.H)) := by
  have hp := pairsN_nonneg x.H.cells
  have e0 := endH_eq k x.H
  have e1 := mkT_const (w := wW) (c := 3) (fun _ => rfl) x.H.regs k
  have e2 := mkT_wC x.H.cells (mkT wW k x.H.regs)
  have e3 := mkT_const (w := wI) (c := 1) (fun _ => rfl) x.H.gray (mkT wC (mkT wW k x.H.regs) x.H.cells)
  have e4 := mkT_wCS x.xs (mkT wW k x.H.regs)
  rw [he] at e4
  have q1 := heldWordS_q h0 (by omega) hx.regs
  have q2 := heldCellS_q (k := mkT wW k x.H.regs) (xs := x.xs) (by omega) (by omega) hx.cl
  rw [e4] at q2
  have q3 := heldIntS_q (k := mkT wC (mkT wW k x.H.regs) x.H.cells) (by omega) (by omega) hx.gray
  refine fn29 (by simp) ?_
  repeat' (first
    | (refine vl_pure rfl ?_)
    | (refine vl_nil ?_)
    | (refine VC.seq ?_)
    | (refine VC.regV ?_)
    | (refine vl_box rfl rfl ?_)
    | (refine vl_cq rfl (q1) ?_)
    | (refine vl_cq rfl (q2) ?_)
    | (refine vl_cq rfl (q3) ?_)
    | (refine VC.ret ?_)
    | (refine VC.skip ?_)
    | (refine seqQ_n ?_)
    | (refine seqQ_r ?_)
    | (refine VC.cond _ rfl (fun hb => ?_) (fun hb => ?_)))
  any_goals (simp at hb; omega)
  exact fnQ_r rfl (Mem.le_refl _) (q_end rfl)
/-- the same, of the heap's value as it was handed out -/
theorem heldHeap_q' {M : Mem} {x : HS} {k : Int} (h0 : 0 ≤ k) (hb : endH k x.H ≤ 4611686018427387904) (he : x.xs.map (·.c) = x.H.cells) (hx : RHV M (gH k x)) :
    Qt Try.prog 29 [x.v, .int .i64 k] M (.int .i64 (endH k x.H)) := heldHeap_q h0 hb he hx
end Go.Proofs.Ytcmllambknfleaa.E
