/- The functions of the program in the engine's form, written by a program out of the loaded translation, and checked against it by the kernel. Conditions: none. -/
import Derived.Test.YtpcakglnklpjoaaEngP
import Derived.Test.YtpcakglnklpjoaaCode0
set_option maxRecDepth 100000
set_option linter.unusedVariables false
namespace Go.Proofs.Ytpcakglnklpjoaa.E
open Go
/-! impl.within -/
noncomputable def e71 : Env := ⟨Try.prog, [], 15, []⟩
noncomputable def c71 : C :=
  .seq (.reg [
    ⟨some 6, none, .mov (.const (.bool false))⟩]) (.seq (.reg [
    ⟨some 7, none, .mov (.tmp 0)⟩,
    ⟨some 8, none, .mov (.tmp 1)⟩,
    ⟨some 9, none, .bin .geq (.tmp 7) (.tmp 8)⟩,
    ⟨some 10, none, .mov (.tmp 9)⟩,
    ⟨some 11, some (10, true), .mov (.tmp 0)⟩,
    ⟨some 12, some (10, true), .mov (.tmp 2)⟩,
    ⟨some 13, some (10, true), .bin .leq (.tmp 11) (.tmp 12)⟩,
    ⟨some 14, none, .pick (.tmp 10) (.tmp 13) (.const (.bool false))⟩,
    ⟨some 6, none, .mov (.tmp 14)⟩]) (.ret))
theorem t71 : Try.f71.body.bind (trC e71) = some c71 := by kernel_rfl
theorem r71 : Try.f71.results.toList.mapM (trR Try.prog) = some [.tmp 6] := by kernel_rfl
theorem fn71 {args : List Value} {M : Mem} {post : Value → Mem → Prop} (hl : args.length ≤ 15) (h : VC e71 c71 (fnQ [.tmp 6] post) (initS args 15) M) : Fn Try.prog 71 args M post :=
  Fn.of' (E := e71) Try.func71 t71 rfl r71 mixed hl h
/-! impl.Fresh -/
noncomputable def e26 : Env := ⟨Try.prog, [2], 10, []⟩
noncomputable def c26 : C :=
  .seq (.reg [
    ⟨some 2, none, .alloc true [.int .i64 0, .int .i64 0, .int .i64 0, .slice none 0 0, .slice none 0 0, .int .i64 0, .int .i64 0, .int .i64 0, .slice none 0 0, .int .i64 0, .int .i64 0, .int .i64 0, .int .i64 0]⟩]) (.seq (.seq (.reg [
    ⟨some 3, none, .mov (.tmp 0)⟩,
    ⟨some 4, none, .call 71 [.tmp 3, .const (.int .i64 1), .const (.int .i64 4000)]⟩,
    ⟨some 5, none, .not (.tmp 4)⟩]) (.cond (.tmp 5) (.seq (.reg [
    ⟨some 6, none, .build [.int .i64 0, .int .i64 0, .int .i64 0, .slice none 0 0, .slice none 0 0, .int .i64 0, .int .i64 0, .int .i64 0, .slice none 0 0, .int .i64 0, .int .i64 0, .int .i64 0, .int .i64 0] []⟩,
    ⟨none, none, .store 13 (.tmp 2) (.tmp 6)⟩]) (.ret)) (.skip))) (.seq (.reg [
    ⟨some 7, none, .mov (.tmp 0)⟩,
    ⟨some 8, none, .mkslice 3 24 [.int .i64 0, .int .i64 0, .int .i64 0] (.const (.int .i64 16)) (.const (.int .i64 16))⟩,
    ⟨some 9, none, .build [.int .i64 0, .int .i64 0, .int .i64 0, .slice none 0 0, .slice none 0 0, .int .i64 0, .int .i64 0, .int .i64 0, .slice none 0 0, .int .i64 0, .int .i64 0, .int .i64 0, .int .i64 0] [(0, 1, .tmp 7), (3, 1, .tmp 8)]⟩,
    ⟨none, none, .store 13 (.tmp 2) (.tmp 9)⟩]) (.ret)))
theorem t26 : Try.f26.body.bind (trC e26) = some c26 := by kernel_rfl
theorem r26 : Try.f26.results.toList.mapM (trR Try.prog) = some [.cell 2 false 13] := by kernel_rfl
theorem fn26 {args : List Value} {M : Mem} {post : Value → Mem → Prop} (hl : args.length ≤ 10) (h : VC e26 c26 (fnQ [.cell 2 false 13] post) (initS args 10) M) : Fn Try.prog 26 args M post :=
  Fn.of' (E := e26) Try.func26 t26 rfl r26 mixed hl h
/-! spec.l1in -/
noncomputable def e69 : Env := ⟨Try.prog, [], 15, []⟩
noncomputable def c69 : C :=
  .seq (.reg [
    ⟨some 6, none, .mov (.const (.bool false))⟩]) (.seq (.reg [
    ⟨some 7, none, .mov (.tmp 0)⟩,
    ⟨some 8, none, .mov (.tmp 1)⟩,
    ⟨some 9, none, .bin .geq (.tmp 7) (.tmp 8)⟩,
    ⟨some 10, none, .mov (.tmp 9)⟩,
    ⟨some 11, some (10, true), .mov (.tmp 0)⟩,
    ⟨some 12, some (10, true), .mov (.tmp 2)⟩,
    ⟨some 13, some (10, true), .bin .leq (.tmp 11) (.tmp 12)⟩,
    ⟨some 14, none, .pick (.tmp 10) (.tmp 13) (.const (.bool false))⟩,
    ⟨some 6, none, .mov (.tmp 14)⟩]) (.ret))
theorem t69 : Try.f69.body.bind (trC e69) = some c69 := by kernel_rfl
theorem r69 : Try.f69.results.toList.mapM (trR Try.prog) = some [.tmp 6] := by kernel_rfl
theorem fn69 {args : List Value} {M : Mem} {post : Value → Mem → Prop} (hl : args.length ≤ 15) (h : VC e69 c69 (fnQ [.tmp 6] post) (initS args 15) M) : Fn Try.prog 69 args M post :=
  Fn.of' (E := e69) Try.func69 t69 rfl r69 mixed hl h
/-! spec.l1fresh -/
noncomputable def e70 : Env := ⟨Try.prog, [], 7, []⟩
noncomputable def c70 : C :=
  .seq (.reg [
    ⟨some 2, none, .mov (.const (.pointer none))⟩]) (.seq (.reg [
    ⟨some 3, none, .mov (.tmp 0)⟩,
    ⟨some 4, none, .mkslice 3 24 [.int .i64 0, .int .i64 0, .int .i64 0] (.const (.int .i64 16)) (.const (.int .i64 16))⟩,
    ⟨some 5, none, .build [.int .i64 0, .int .i64 0, .int .i64 0, .slice none 0 0, .slice none 0 0, .int .i64 0, .int .i64 0, .int .i64 0, .slice none 0 0, .int .i64 0, .int .i64 0, .int .i64 0, .int .i64 0] [(0, 1, .tmp 3), (3, 1, .tmp 4)]⟩,
    ⟨some 6, none, .box false (.tmp 5)⟩,
    ⟨some 2, none, .mov (.tmp 6)⟩]) (.ret))
theorem t70 : Try.f70.body.bind (trC e70) = some c70 := by kernel_rfl
theorem r70 : Try.f70.results.toList.mapM (trR Try.prog) = some [.tmp 2] := by kernel_rfl
theorem fn70 {args : List Value} {M : Mem} {post : Value → Mem → Prop} (hl : args.length ≤ 7) (h : VC e70 c70 (fnQ [.tmp 2] post) (initS args 7) M) : Fn Try.prog 70 args M post :=
  Fn.of' (E := e70) Try.func70 t70 rfl r70 mixed hl h
/-! spec.Fresh -/
noncomputable def e25 : Env := ⟨Try.prog, [2], 11, []⟩
noncomputable def c25 : C :=
  .seq (.reg [
    ⟨some 2, none, .alloc true [.int .i64 0, .int .i64 0, .int .i64 0, .slice none 0 0, .slice none 0 0, .int .i64 0, .int .i64 0, .int .i64 0, .slice none 0 0, .int .i64 0, .int .i64 0, .int .i64 0, .int .i64 0]⟩]) (.seq (.seq (.reg [
    ⟨some 3, none, .mov (.tmp 0)⟩,
    ⟨some 4, none, .call 69 [.tmp 3, .const (.int .i64 1), .const (.int .i64 4000)]⟩,
    ⟨some 5, none, .not (.tmp 4)⟩]) (.cond (.tmp 5) (.seq (.reg [
    ⟨some 6, none, .build [.int .i64 0, .int .i64 0, .int .i64 0, .slice none 0 0, .slice none 0 0, .int .i64 0, .int .i64 0, .int .i64 0, .slice none 0 0, .int .i64 0, .int .i64 0, .int .i64 0, .int .i64 0] []⟩,
    ⟨none, none, .store 13 (.tmp 2) (.tmp 6)⟩]) (.ret)) (.skip))) (.seq (.reg [
    ⟨some 7, none, .mov (.tmp 0)⟩,
    ⟨some 8, none, .call 70 [.tmp 7]⟩,
    ⟨some 9, none, .nilCheck (.tmp 8)⟩,
    ⟨some 10, none, .load false 13 (.tmp 9)⟩,
    ⟨none, none, .store 13 (.tmp 2) (.tmp 10)⟩]) (.ret)))
theorem t25 : Try.f25.body.bind (trC e25) = some c25 := by kernel_rfl
theorem r25 : Try.f25.results.toList.mapM (trR Try.prog) = some [.cell 2 false 13] := by kernel_rfl
theorem fn25 {args : List Value} {M : Mem} {post : Value → Mem → Prop} (hl : args.length ≤ 11) (h : VC e25 c25 (fnQ [.cell 2 false 13] post) (initS args 11) M) : Fn Try.prog 25 args M post :=
  Fn.of' (E := e25) Try.func25 t25 rfl r25 mixed hl h
/-! laws.FnExactFresh -/
noncomputable def e5 : Env := ⟨Try.prog, [3, 4, 7], 41, []⟩
noncomputable def c5 : C :=
  .seq (.reg [
    ⟨some 2, none, .mov (.const (.bool false))⟩]) (.seq (.reg [
    ⟨some 8, none, .mov (.tmp 0)⟩,
    ⟨some 9, none, .call 25 [.tmp 8]⟩,
    ⟨some 3, none, .alloc true [.int .i64 0, .int .i64 0, .int .i64 0, .slice none 0 0, .slice none 0 0, .int .i64 0, .int .i64 0, .int .i64 0, .slice none 0 0, .int .i64 0, .int .i64 0, .int .i64 0, .int .i64 0]⟩,
    ⟨none, none, .store 13 (.tmp 3) (.tmp 9)⟩]) (.seq (.reg [
    ⟨some 10, none, .mov (.tmp 0)⟩,
    ⟨some 11, none, .call 26 [.tmp 10]⟩,
    ⟨some 4, none, .alloc true [.int .i64 0, .int .i64 0, .int .i64 0, .slice none 0 0, .slice none 0 0, .int .i64 0, .int .i64 0, .int .i64 0, .slice none 0 0, .int .i64 0, .int .i64 0, .int .i64 0, .int .i64 0]⟩,
    ⟨none, none, .store 13 (.tmp 4) (.tmp 11)⟩]) (.seq (.seq (.reg [
    ⟨some 12, none, .load false 13 (.tmp 4)⟩,
    ⟨some 13, none, .load false 13 (.tmp 3)⟩,
    ⟨some 14, none, .call 27 [.tmp 12, .tmp 13]⟩,
    ⟨some 15, none, .not (.tmp 14)⟩]) (.cond (.tmp 15) (.seq (.reg [
    ⟨some 2, none, .mov (.const (.bool false))⟩]) (.ret)) (.skip))) (.seq (.reg [
    ⟨some 5, none, .mov (.const (.int .i64 1))⟩]) (.seq (.reg [
    ⟨some 16, none, .load false 13 (.tmp 4)⟩,
    ⟨some 17, none, .mov (.tmp 5)⟩,
    ⟨some 18, none, .call 28 [.tmp 16, .tmp 17]⟩,
    ⟨some 5, none, .mov (.tmp 18)⟩]) (.seq (.reg [
    ⟨some 6, none, .mov (.const (.int .i64 1))⟩]) (.seq (.reg [
    ⟨some 19, none, .load false 13 (.tmp 4)⟩,
    ⟨some 20, none, .mov (.tmp 6)⟩,
    ⟨some 21, none, .call 29 [.tmp 19, .tmp 20]⟩,
    ⟨some 6, none, .mov (.tmp 21)⟩]) (.seq (.seq (.reg [
    ⟨some 22, none, .mov (.tmp 6)⟩,
    ⟨some 23, none, .bin .lss (.tmp 22) (.const (.int .i64 0))⟩]) (.cond (.tmp 23) (.seq (.reg [
    ⟨some 2, none, .mov (.const (.bool false))⟩]) (.ret)) (.skip))) (.seq (.seq (.reg [
    ⟨some 24, none, .mov (.tmp 6)⟩,
    ⟨some 25, none, .mov (.tmp 5)⟩,
    ⟨some 26, none, .bin .neq (.tmp 24) (.tmp 25)⟩]) (.cond (.tmp 26) (.seq (.reg [
    ⟨some 2, none, .mov (.const (.bool false))⟩]) (.ret)) (.skip))) (.seq (.reg [
    ⟨some 27, none, .mov (.tmp 0)⟩,
    ⟨some 28, none, .call 26 [.tmp 27]⟩,
    ⟨some 7, none, .alloc true [.int .i64 0, .int .i64 0, .int .i64 0, .slice none 0 0, .slice none 0 0, .int .i64 0, .int .i64 0, .int .i64 0, .slice none 0 0, .int .i64 0, .int .i64 0, .int .i64 0, .int .i64 0]⟩,
    ⟨none, none, .store 13 (.tmp 7) (.tmp 28)⟩]) (.seq (.seq (.reg [
    ⟨some 29, none, .load false 13 (.tmp 7)⟩,
    ⟨some 30, none, .load false 13 (.tmp 3)⟩,
    ⟨some 31, none, .call 27 [.tmp 29, .tmp 30]⟩,
    ⟨some 32, none, .not (.tmp 31)⟩]) (.cond (.tmp 32) (.seq (.reg [
    ⟨some 2, none, .mov (.const (.bool false))⟩]) (.ret)) (.skip))) (.seq (.reg [
    ⟨some 6, none, .mov (.const (.int .i64 1))⟩]) (.seq (.reg [
    ⟨some 33, none, .load false 13 (.tmp 4)⟩,
    ⟨some 34, none, .mov (.tmp 6)⟩,
    ⟨some 35, none, .call 29 [.tmp 33, .tmp 34]⟩,
    ⟨some 6, none, .mov (.tmp 35)⟩]) (.seq (.seq (.reg [
    ⟨some 36, none, .mov (.tmp 6)⟩,
    ⟨some 37, none, .bin .lss (.tmp 36) (.const (.int .i64 0))⟩]) (.cond (.tmp 37) (.seq (.reg [
    ⟨some 2, none, .mov (.const (.bool false))⟩]) (.ret)) (.skip))) (.seq (.seq (.reg [
    ⟨some 38, none, .mov (.tmp 6)⟩,
    ⟨some 39, none, .mov (.tmp 5)⟩,
    ⟨some 40, none, .bin .neq (.tmp 38) (.tmp 39)⟩]) (.cond (.tmp 40) (.seq (.reg [
    ⟨some 2, none, .mov (.const (.bool false))⟩]) (.ret)) (.skip))) (.seq (.reg [
    ⟨some 2, none, .mov (.const (.bool true))⟩]) (.ret)))))))))))))))))
theorem t5 : Try.f5.body.bind (trC e5) = some c5 := by kernel_rfl
theorem r5 : Try.f5.results.toList.mapM (trR Try.prog) = some [.tmp 2] := by kernel_rfl
theorem fn5 {args : List Value} {M : Mem} {post : Value → Mem → Prop} (hl : args.length ≤ 41) (h : VC e5 c5 (fnQ [.tmp 2] post) (initS args 41) M) : Fn Try.prog 5 args M post :=
  Fn.of' (E := e5) Try.func5 t5 rfl r5 mixed hl h
end Go.Proofs.Ytpcakglnklpjoaa.E
