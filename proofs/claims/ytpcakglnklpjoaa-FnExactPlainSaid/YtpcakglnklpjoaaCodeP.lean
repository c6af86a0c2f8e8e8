/- The functions of the program in the engine's form, written by a program out of the loaded translation, and checked against it by the kernel. Conditions: none. -/
import Derived.Test.YtpcakglnklpjoaaEngP
import Derived.Test.YtpcakglnklpjoaaCode0
set_option maxRecDepth 100000
set_option linter.unusedVariables false
namespace Go.Proofs.Ytpcakglnklpjoaa.E
open Go
/-! impl.Plain -/
noncomputable def e21 : Env := ⟨Try.prog, [5, 27], 31, []⟩
noncomputable def c21 : C :=
  .seq (.reg [
    ⟨some 2, none, .mov (.const (.slice none 0 0))⟩]) (.seq (.reg [
    ⟨some 3, none, .mov (.const (.slice none 0 0))⟩]) (.seq (.seq (.reg [
    ⟨some 6, none, .mov (.tmp 0)⟩,
    ⟨some 7, none, .lenS (.tmp 6)⟩,
    ⟨some 8, none, .mov (.const (.int .i64 0))⟩]) (.block 0 (.loop (.seq (.reg [
    ⟨some 9, none, .bin .lss (.tmp 8) (.tmp 7)⟩]) (.seq (.cond (.tmp 9) (.skip) (.exit 0)) (.seq (.block 1 (.seq (.reg [
    ⟨some 10, none, .iaddr 5 (.tmp 6) (.tmp 8)⟩,
    ⟨some 11, none, .load false 5 (.tmp 10)⟩,
    ⟨some 5, none, .alloc true [.int .i64 0, .int .i64 0, .int .i64 0, .int .i64 0, .int .i64 0]⟩,
    ⟨none, none, .store 5 (.tmp 5) (.tmp 11)⟩]) (.seq (.reg [
    ⟨some 12, none, .faddr 0 (.tmp 5)⟩,
    ⟨some 13, none, .load true 1 (.tmp 12)⟩,
    ⟨some 14, none, .bin .neq (.tmp 13) (.const (.int .i64 22))⟩,
    ⟨some 15, none, .mov (.tmp 14)⟩,
    ⟨some 16, some (15, true), .faddr 0 (.tmp 5)⟩,
    ⟨some 17, some (15, true), .load true 1 (.tmp 16)⟩,
    ⟨some 18, some (15, true), .bin .neq (.tmp 17) (.const (.int .i64 23))⟩,
    ⟨some 19, none, .pick (.tmp 15) (.tmp 18) (.const (.bool false))⟩,
    ⟨some 20, none, .mov (.tmp 19)⟩,
    ⟨some 21, some (20, true), .faddr 0 (.tmp 5)⟩,
    ⟨some 22, some (20, true), .load true 1 (.tmp 21)⟩,
    ⟨some 23, some (20, true), .bin .neq (.tmp 22) (.const (.int .i64 24))⟩,
    ⟨some 24, none, .pick (.tmp 20) (.tmp 23) (.const (.bool false))⟩]) (.cond (.tmp 24) (.reg [
    ⟨some 25, none, .mov (.tmp 3)⟩,
    ⟨some 26, none, .load false 5 (.tmp 5)⟩,
    ⟨some 27, none, .bslice true 1 5 [.int .i64 0, .int .i64 0, .int .i64 0, .int .i64 0, .int .i64 0] [(0, 5, .tmp 26)]⟩,
    ⟨some 28, none, .app 5 40 [.int .i64 0, .int .i64 0, .int .i64 0, .int .i64 0, .int .i64 0] (.tmp 25) (.tmp 27)⟩,
    ⟨some 3, none, .mov (.tmp 28)⟩]) (.skip))))) (.reg [
    ⟨some 29, none, .bin .add (.tmp 8) (.const (.int .i64 1))⟩,
    ⟨some 8, none, .mov (.tmp 29)⟩]))))))) (.seq (.reg [
    ⟨some 30, none, .mov (.tmp 3)⟩,
    ⟨some 2, none, .mov (.tmp 30)⟩]) (.ret))))
theorem t21 : Try.f21.body.bind (trC e21) = some c21 := by kernel_rfl
theorem r21 : Try.f21.results.toList.mapM (trR Try.prog) = some [.tmp 2] := by kernel_rfl
theorem fn21 {args : List Value} {M : Mem} {post : Value → Mem → Prop} (hl : args.length ≤ 31) (h : VC e21 c21 (fnQ [.tmp 2] post) (initS args 31) M) : Fn Try.prog 21 args M post :=
  Fn.of' (E := e21) Try.func21 t21 rfl r21 mixed hl h
/-! spec.Plain -/
noncomputable def e19 : Env := ⟨Try.prog, [5, 27], 31, []⟩
noncomputable def c19 : C :=
  .seq (.reg [
    ⟨some 2, none, .mov (.const (.slice none 0 0))⟩]) (.seq (.reg [
    ⟨some 3, none, .mov (.const (.slice none 0 0))⟩]) (.seq (.seq (.reg [
    ⟨some 6, none, .mov (.tmp 0)⟩,
    ⟨some 7, none, .lenS (.tmp 6)⟩,
    ⟨some 8, none, .mov (.const (.int .i64 0))⟩]) (.block 0 (.loop (.seq (.reg [
    ⟨some 9, none, .bin .lss (.tmp 8) (.tmp 7)⟩]) (.seq (.cond (.tmp 9) (.skip) (.exit 0)) (.seq (.block 1 (.seq (.reg [
    ⟨some 10, none, .iaddr 5 (.tmp 6) (.tmp 8)⟩,
    ⟨some 11, none, .load false 5 (.tmp 10)⟩,
    ⟨some 5, none, .alloc true [.int .i64 0, .int .i64 0, .int .i64 0, .int .i64 0, .int .i64 0]⟩,
    ⟨none, none, .store 5 (.tmp 5) (.tmp 11)⟩]) (.seq (.reg [
    ⟨some 12, none, .faddr 0 (.tmp 5)⟩,
    ⟨some 13, none, .load true 1 (.tmp 12)⟩,
    ⟨some 14, none, .bin .neq (.tmp 13) (.const (.int .i64 22))⟩,
    ⟨some 15, none, .mov (.tmp 14)⟩,
    ⟨some 16, some (15, true), .faddr 0 (.tmp 5)⟩,
    ⟨some 17, some (15, true), .load true 1 (.tmp 16)⟩,
    ⟨some 18, some (15, true), .bin .neq (.tmp 17) (.const (.int .i64 23))⟩,
    ⟨some 19, none, .pick (.tmp 15) (.tmp 18) (.const (.bool false))⟩,
    ⟨some 20, none, .mov (.tmp 19)⟩,
    ⟨some 21, some (20, true), .faddr 0 (.tmp 5)⟩,
    ⟨some 22, some (20, true), .load true 1 (.tmp 21)⟩,
    ⟨some 23, some (20, true), .bin .neq (.tmp 22) (.const (.int .i64 24))⟩,
    ⟨some 24, none, .pick (.tmp 20) (.tmp 23) (.const (.bool false))⟩]) (.cond (.tmp 24) (.reg [
    ⟨some 25, none, .mov (.tmp 3)⟩,
    ⟨some 26, none, .load false 5 (.tmp 5)⟩,
    ⟨some 27, none, .bslice true 1 5 [.int .i64 0, .int .i64 0, .int .i64 0, .int .i64 0, .int .i64 0] [(0, 5, .tmp 26)]⟩,
    ⟨some 28, none, .app 5 40 [.int .i64 0, .int .i64 0, .int .i64 0, .int .i64 0, .int .i64 0] (.tmp 25) (.tmp 27)⟩,
    ⟨some 3, none, .mov (.tmp 28)⟩]) (.skip))))) (.reg [
    ⟨some 29, none, .bin .add (.tmp 8) (.const (.int .i64 1))⟩,
    ⟨some 8, none, .mov (.tmp 29)⟩]))))))) (.seq (.reg [
    ⟨some 30, none, .mov (.tmp 3)⟩,
    ⟨some 2, none, .mov (.tmp 30)⟩]) (.ret))))
theorem t19 : Try.f19.body.bind (trC e19) = some c19 := by kernel_rfl
theorem r19 : Try.f19.results.toList.mapM (trR Try.prog) = some [.tmp 2] := by kernel_rfl
theorem fn19 {args : List Value} {M : Mem} {post : Value → Mem → Prop} (hl : args.length ≤ 31) (h : VC e19 c19 (fnQ [.tmp 2] post) (initS args 31) M) : Fn Try.prog 19 args M post :=
  Fn.of' (E := e19) Try.func19 t19 rfl r19 mixed hl h
/-! laws.FnExactPlain -/
noncomputable def e4 : Env := ⟨Try.prog, [], 69, []⟩
noncomputable def c4 : C :=
  .seq (.reg [
    ⟨some 2, none, .mov (.const (.bool false))⟩]) (.seq (.reg [
    ⟨some 3, none, .mov (.const (.int .i64 1048576))⟩]) (.seq (.reg [
    ⟨some 11, none, .mov (.tmp 0)⟩,
    ⟨some 12, none, .mov (.tmp 3)⟩,
    ⟨some 13, none, .call 18 [.tmp 11, .tmp 12]⟩,
    ⟨some 3, none, .mov (.tmp 13)⟩]) (.seq (.seq (.reg [
    ⟨some 14, none, .mov (.tmp 3)⟩,
    ⟨some 15, none, .bin .lss (.tmp 14) (.const (.int .i64 0))⟩]) (.cond (.tmp 15) (.seq (.reg [
    ⟨some 2, none, .mov (.const (.bool true))⟩]) (.ret)) (.skip))) (.seq (.reg [
    ⟨some 16, none, .mov (.tmp 0)⟩,
    ⟨some 17, none, .call 20 [.tmp 16]⟩,
    ⟨some 18, none, .call 19 [.tmp 17]⟩,
    ⟨some 4, none, .mov (.tmp 18)⟩]) (.seq (.reg [
    ⟨some 19, none, .mov (.tmp 0)⟩,
    ⟨some 20, none, .call 20 [.tmp 19]⟩,
    ⟨some 5, none, .mov (.tmp 20)⟩]) (.seq (.reg [
    ⟨some 21, none, .mov (.tmp 5)⟩,
    ⟨some 22, none, .call 21 [.tmp 21]⟩,
    ⟨some 6, none, .mov (.tmp 22)⟩]) (.seq (.seq (.reg [
    ⟨some 23, none, .mov (.tmp 6)⟩,
    ⟨some 24, none, .mov (.tmp 4)⟩,
    ⟨some 25, none, .call 22 [.tmp 23, .tmp 24]⟩,
    ⟨some 26, none, .not (.tmp 25)⟩]) (.cond (.tmp 26) (.seq (.reg [
    ⟨some 2, none, .mov (.const (.bool false))⟩]) (.ret)) (.skip))) (.seq (.seq (.reg [
    ⟨some 27, none, .mov (.tmp 5)⟩,
    ⟨some 28, none, .mov (.tmp 0)⟩,
    ⟨some 29, none, .call 20 [.tmp 28]⟩,
    ⟨some 30, none, .call 22 [.tmp 27, .tmp 29]⟩,
    ⟨some 31, none, .not (.tmp 30)⟩]) (.cond (.tmp 31) (.seq (.reg [
    ⟨some 2, none, .mov (.const (.bool false))⟩]) (.ret)) (.skip))) (.seq (.reg [
    ⟨some 7, none, .mov (.const (.int .i64 1))⟩]) (.seq (.reg [
    ⟨some 32, none, .mov (.tmp 5)⟩,
    ⟨some 33, none, .mov (.tmp 7)⟩,
    ⟨some 34, none, .call 23 [.tmp 32, .tmp 33]⟩,
    ⟨some 7, none, .mov (.tmp 34)⟩]) (.seq (.seq (.reg [
    ⟨some 35, none, .mov (.tmp 7)⟩,
    ⟨some 36, none, .bin .lss (.tmp 35) (.const (.int .i64 0))⟩,
    ⟨some 37, none, .mov (.tmp 36)⟩,
    ⟨some 38, some (37, false), .mov (.tmp 6)⟩,
    ⟨some 39, some (37, false), .mov (.tmp 4)⟩,
    ⟨some 40, some (37, false), .call 22 [.tmp 38, .tmp 39]⟩,
    ⟨some 41, some (37, false), .not (.tmp 40)⟩,
    ⟨some 42, none, .pick (.tmp 37) (.const (.bool true)) (.tmp 41)⟩]) (.cond (.tmp 42) (.seq (.reg [
    ⟨some 2, none, .mov (.const (.bool false))⟩]) (.ret)) (.skip))) (.seq (.reg [
    ⟨some 8, none, .mov (.const (.int .i64 1))⟩]) (.seq (.reg [
    ⟨some 43, none, .mov (.tmp 6)⟩,
    ⟨some 44, none, .mov (.tmp 8)⟩,
    ⟨some 45, none, .call 23 [.tmp 43, .tmp 44]⟩,
    ⟨some 8, none, .mov (.tmp 45)⟩]) (.seq (.reg [
    ⟨some 9, none, .mov (.const (.int .i64 1))⟩]) (.seq (.reg [
    ⟨some 46, none, .mov (.tmp 6)⟩,
    ⟨some 47, none, .mov (.tmp 9)⟩,
    ⟨some 48, none, .call 24 [.tmp 46, .tmp 47]⟩,
    ⟨some 9, none, .mov (.tmp 48)⟩]) (.seq (.seq (.reg [
    ⟨some 49, none, .mov (.tmp 9)⟩,
    ⟨some 50, none, .bin .lss (.tmp 49) (.const (.int .i64 0))⟩]) (.cond (.tmp 50) (.seq (.reg [
    ⟨some 2, none, .mov (.const (.bool false))⟩]) (.ret)) (.skip))) (.seq (.seq (.reg [
    ⟨some 51, none, .mov (.tmp 9)⟩,
    ⟨some 52, none, .mov (.tmp 8)⟩,
    ⟨some 53, none, .bin .neq (.tmp 51) (.tmp 52)⟩]) (.cond (.tmp 53) (.seq (.reg [
    ⟨some 2, none, .mov (.const (.bool false))⟩]) (.ret)) (.skip))) (.seq (.reg [
    ⟨some 54, none, .mov (.tmp 0)⟩,
    ⟨some 55, none, .call 20 [.tmp 54]⟩,
    ⟨some 56, none, .call 21 [.tmp 55]⟩,
    ⟨some 10, none, .mov (.tmp 56)⟩]) (.seq (.seq (.reg [
    ⟨some 57, none, .mov (.tmp 10)⟩,
    ⟨some 58, none, .mov (.tmp 4)⟩,
    ⟨some 59, none, .call 22 [.tmp 57, .tmp 58]⟩,
    ⟨some 60, none, .not (.tmp 59)⟩]) (.cond (.tmp 60) (.seq (.reg [
    ⟨some 2, none, .mov (.const (.bool false))⟩]) (.ret)) (.skip))) (.seq (.reg [
    ⟨some 9, none, .mov (.const (.int .i64 1))⟩]) (.seq (.reg [
    ⟨some 61, none, .mov (.tmp 6)⟩,
    ⟨some 62, none, .mov (.tmp 9)⟩,
    ⟨some 63, none, .call 24 [.tmp 61, .tmp 62]⟩,
    ⟨some 9, none, .mov (.tmp 63)⟩]) (.seq (.seq (.reg [
    ⟨some 64, none, .mov (.tmp 9)⟩,
    ⟨some 65, none, .bin .lss (.tmp 64) (.const (.int .i64 0))⟩]) (.cond (.tmp 65) (.seq (.reg [
    ⟨some 2, none, .mov (.const (.bool false))⟩]) (.ret)) (.skip))) (.seq (.seq (.reg [
    ⟨some 66, none, .mov (.tmp 9)⟩,
    ⟨some 67, none, .mov (.tmp 8)⟩,
    ⟨some 68, none, .bin .neq (.tmp 66) (.tmp 67)⟩]) (.cond (.tmp 68) (.seq (.reg [
    ⟨some 2, none, .mov (.const (.bool false))⟩]) (.ret)) (.skip))) (.seq (.reg [
    ⟨some 2, none, .mov (.const (.bool true))⟩]) (.ret)))))))))))))))))))))))))
theorem t4 : Try.f4.body.bind (trC e4) = some c4 := by kernel_rfl
theorem r4 : Try.f4.results.toList.mapM (trR Try.prog) = some [.tmp 2] := by kernel_rfl
theorem fn4 {args : List Value} {M : Mem} {post : Value → Mem → Prop} (hl : args.length ≤ 69) (h : VC e4 c4 (fnQ [.tmp 2] post) (initS args 69) M) : Fn Try.prog 4 args M post :=
  Fn.of' (E := e4) Try.func4 t4 rfl r4 mixed hl h
end Go.Proofs.Ytpcakglnklpjoaa.E
