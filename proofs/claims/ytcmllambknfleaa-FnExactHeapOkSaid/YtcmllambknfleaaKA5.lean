/- The functions of the program in the engine's form, written by a program out of the loaded translation, and checked against it by the kernel. Conditions: none. -/
import Derived.Test.YtcmllambknfleaaKA4
set_option maxRecDepth 100000
set_option linter.unusedVariables false
namespace Go.Proofs.Ytcmllambknfleaa.E
open Go
/-! laws.szWordS -/
noncomputable def e81 : Env := ⟨Try.prog, [], 12, []⟩
noncomputable def c81 : C :=
  .seq (.reg [
    ⟨some 4, none, .mov (.const (.int .i64 0))⟩]) (.seq (.reg [
    ⟨some 5, none, .mov (.tmp 1)⟩,
    ⟨some 6, none, .mov (.tmp 0)⟩,
    ⟨some 7, none, .lenS (.tmp 6)⟩,
    ⟨some 8, none, .bin .sub (.tmp 5) (.tmp 7)⟩,
    ⟨some 1, none, .mov (.tmp 8)⟩]) (.seq (.seq (.reg [
    ⟨some 9, none, .mov (.tmp 1)⟩,
    ⟨some 10, none, .bin .lss (.tmp 9) (.const (.int .i64 0))⟩]) (.cond (.tmp 10) (.seq (.reg [
    ⟨some 4, none, .mov (.const (.int .i64 (-1)))⟩]) (.ret)) (.skip))) (.seq (.reg [
    ⟨some 11, none, .mov (.tmp 1)⟩,
    ⟨some 4, none, .mov (.tmp 11)⟩]) (.ret))))
theorem t81 : Try.f81.body.bind (trC e81) = some c81 := by kernel_rfl
theorem r81 : Try.f81.results.toList.mapM (trR Try.prog) = some [.tmp 4] := by kernel_rfl
theorem fn81 {args : List Value} {M : Mem} {post : Value → Mem → Prop} (hl : args.length ≤ 12) (h : VC e81 c81 (fnQ [.tmp 4] post) (initS args 12) M) : Fn Try.prog 81 args M post :=
  Fn.of' (E := e81) Try.func81 t81 rfl r81 mixed hl h
/-! laws.szPairS -/
noncomputable def e164 : Env := ⟨Try.prog, [], 12, []⟩
noncomputable def c164 : C :=
  .seq (.reg [
    ⟨some 4, none, .mov (.const (.int .i64 0))⟩]) (.seq (.reg [
    ⟨some 5, none, .mov (.tmp 1)⟩,
    ⟨some 6, none, .mov (.tmp 0)⟩,
    ⟨some 7, none, .lenS (.tmp 6)⟩,
    ⟨some 8, none, .bin .sub (.tmp 5) (.tmp 7)⟩,
    ⟨some 1, none, .mov (.tmp 8)⟩]) (.seq (.seq (.reg [
    ⟨some 9, none, .mov (.tmp 1)⟩,
    ⟨some 10, none, .bin .lss (.tmp 9) (.const (.int .i64 0))⟩]) (.cond (.tmp 10) (.seq (.reg [
    ⟨some 4, none, .mov (.const (.int .i64 (-1)))⟩]) (.ret)) (.skip))) (.seq (.reg [
    ⟨some 11, none, .mov (.tmp 1)⟩,
    ⟨some 4, none, .mov (.tmp 11)⟩]) (.ret))))
theorem t164 : Try.f164.body.bind (trC e164) = some c164 := by kernel_rfl
theorem r164 : Try.f164.results.toList.mapM (trR Try.prog) = some [.tmp 4] := by kernel_rfl
theorem fn164 {args : List Value} {M : Mem} {post : Value → Mem → Prop} (hl : args.length ≤ 12) (h : VC e164 c164 (fnQ [.tmp 4] post) (initS args 12) M) : Fn Try.prog 164 args M post :=
  Fn.of' (E := e164) Try.func164 t164 rfl r164 mixed hl h
/-! laws.szCell -/
noncomputable def e133 : Env := ⟨Try.prog, [2], 12, []⟩
noncomputable def c133 : C :=
  .seq (.reg [
    ⟨some 2, none, .box true (.tmp 0)⟩,
    ⟨some 4, none, .mov (.const (.int .i64 0))⟩]) (.seq (.reg [
    ⟨some 5, none, .faddr 7 (.tmp 2)⟩,
    ⟨some 6, none, .load true 1 (.tmp 5)⟩,
    ⟨some 7, none, .mov (.tmp 1)⟩,
    ⟨some 8, none, .call 164 [.tmp 6, .tmp 7]⟩,
    ⟨some 1, none, .mov (.tmp 8)⟩]) (.seq (.seq (.reg [
    ⟨some 9, none, .mov (.tmp 1)⟩,
    ⟨some 10, none, .bin .lss (.tmp 9) (.const (.int .i64 0))⟩]) (.cond (.tmp 10) (.seq (.reg [
    ⟨some 4, none, .mov (.const (.int .i64 (-1)))⟩]) (.ret)) (.skip))) (.seq (.reg [
    ⟨some 11, none, .mov (.tmp 1)⟩,
    ⟨some 4, none, .mov (.tmp 11)⟩]) (.ret))))
theorem t133 : Try.f133.body.bind (trC e133) = some c133 := by kernel_rfl
theorem r133 : Try.f133.results.toList.mapM (trR Try.prog) = some [.tmp 4] := by kernel_rfl
theorem fn133 {args : List Value} {M : Mem} {post : Value → Mem → Prop} (hl : args.length ≤ 12) (h : VC e133 c133 (fnQ [.tmp 4] post) (initS args 12) M) : Fn Try.prog 133 args M post :=
  Fn.of' (E := e133) Try.func133 t133 rfl r133 mixed hl h
/-! laws.szCellS -/
noncomputable def e82 : Env := ⟨Try.prog, [], 27, []⟩
noncomputable def c82 : C :=
  .seq (.reg [
    ⟨some 4, none, .mov (.const (.int .i64 0))⟩]) (.seq (.reg [
    ⟨some 6, none, .mov (.tmp 1)⟩,
    ⟨some 7, none, .mov (.tmp 0)⟩,
    ⟨some 8, none, .lenS (.tmp 7)⟩,
    ⟨some 9, none, .bin .sub (.tmp 6) (.tmp 8)⟩,
    ⟨some 1, none, .mov (.tmp 9)⟩]) (.seq (.seq (.reg [
    ⟨some 10, none, .mov (.tmp 1)⟩,
    ⟨some 11, none, .bin .lss (.tmp 10) (.const (.int .i64 0))⟩]) (.cond (.tmp 11) (.seq (.reg [
    ⟨some 4, none, .mov (.const (.int .i64 (-1)))⟩]) (.ret)) (.skip))) (.seq (.seq (.reg [
    ⟨some 5, none, .mov (.const (.int .i64 0))⟩]) (.block 0 (.loop (.seq (.seq (.reg [
    ⟨some 12, none, .mov (.tmp 5)⟩,
    ⟨some 13, none, .mov (.tmp 0)⟩,
    ⟨some 14, none, .lenS (.tmp 13)⟩,
    ⟨some 15, none, .bin .lss (.tmp 12) (.tmp 14)⟩]) (.cond (.tmp 15) (.skip) (.exit 0))) (.seq (.block 1 (.seq (.reg [
    ⟨some 18, none, .mov (.tmp 0)⟩,
    ⟨some 19, none, .mov (.tmp 5)⟩,
    ⟨some 20, none, .iaddr 8 (.tmp 18) (.tmp 19)⟩,
    ⟨some 21, none, .load false 8 (.tmp 20)⟩,
    ⟨some 22, none, .mov (.tmp 1)⟩,
    ⟨some 23, none, .call 133 [.tmp 21, .tmp 22]⟩,
    ⟨some 1, none, .mov (.tmp 23)⟩]) (.seq (.reg [
    ⟨some 24, none, .mov (.tmp 1)⟩,
    ⟨some 25, none, .bin .lss (.tmp 24) (.const (.int .i64 0))⟩]) (.cond (.tmp 25) (.seq (.reg [
    ⟨some 4, none, .mov (.const (.int .i64 (-1)))⟩]) (.ret)) (.skip))))) (.reg [
    ⟨some 16, none, .mov (.tmp 5)⟩,
    ⟨some 17, none, .bin .add (.tmp 16) (.const (.int .i64 1))⟩,
    ⟨some 5, none, .mov (.tmp 17)⟩])))))) (.seq (.reg [
    ⟨some 26, none, .mov (.tmp 1)⟩,
    ⟨some 4, none, .mov (.tmp 26)⟩]) (.ret)))))
theorem t82 : Try.f82.body.bind (trC e82) = some c82 := by kernel_rfl
theorem r82 : Try.f82.results.toList.mapM (trR Try.prog) = some [.tmp 4] := by kernel_rfl
theorem fn82 {args : List Value} {M : Mem} {post : Value → Mem → Prop} (hl : args.length ≤ 27) (h : VC e82 c82 (fnQ [.tmp 4] post) (initS args 27) M) : Fn Try.prog 82 args M post :=
  Fn.of' (E := e82) Try.func82 t82 rfl r82 mixed hl h
/-! laws.szIntS -/
noncomputable def e83 : Env := ⟨Try.prog, [], 12, []⟩
noncomputable def c83 : C :=
  .seq (.reg [
    ⟨some 4, none, .mov (.const (.int .i64 0))⟩]) (.seq (.reg [
    ⟨some 5, none, .mov (.tmp 1)⟩,
    ⟨some 6, none, .mov (.tmp 0)⟩,
    ⟨some 7, none, .lenS (.tmp 6)⟩,
    ⟨some 8, none, .bin .sub (.tmp 5) (.tmp 7)⟩,
    ⟨some 1, none, .mov (.tmp 8)⟩]) (.seq (.seq (.reg [
    ⟨some 9, none, .mov (.tmp 1)⟩,
    ⟨some 10, none, .bin .lss (.tmp 9) (.const (.int .i64 0))⟩]) (.cond (.tmp 10) (.seq (.reg [
    ⟨some 4, none, .mov (.const (.int .i64 (-1)))⟩]) (.ret)) (.skip))) (.seq (.reg [
    ⟨some 11, none, .mov (.tmp 1)⟩,
    ⟨some 4, none, .mov (.tmp 11)⟩]) (.ret))))
theorem t83 : Try.f83.body.bind (trC e83) = some c83 := by kernel_rfl
theorem r83 : Try.f83.results.toList.mapM (trR Try.prog) = some [.tmp 4] := by kernel_rfl
theorem fn83 {args : List Value} {M : Mem} {post : Value → Mem → Prop} (hl : args.length ≤ 12) (h : VC e83 c83 (fnQ [.tmp 4] post) (initS args 12) M) : Fn Try.prog 83 args M post :=
  Fn.of' (E := e83) Try.func83 t83 rfl r83 mixed hl h
/-! laws.szHeap -/
noncomputable def e30 : Env := ⟨Try.prog, [2], 24, []⟩
noncomputable def c30 : C :=
  .seq (.reg [
    ⟨some 2, none, .box true (.tmp 0)⟩,
    ⟨some 4, none, .mov (.const (.int .i64 0))⟩]) (.seq (.reg [
    ⟨some 5, none, .faddr 3 (.tmp 2)⟩,
    ⟨some 6, none, .load true 1 (.tmp 5)⟩,
    ⟨some 7, none, .mov (.tmp 1)⟩,
    ⟨some 8, none, .call 81 [.tmp 6, .tmp 7]⟩,
    ⟨some 1, none, .mov (.tmp 8)⟩]) (.seq (.seq (.reg [
    ⟨some 9, none, .mov (.tmp 1)⟩,
    ⟨some 10, none, .bin .lss (.tmp 9) (.const (.int .i64 0))⟩]) (.cond (.tmp 10) (.seq (.reg [
    ⟨some 4, none, .mov (.const (.int .i64 (-1)))⟩]) (.ret)) (.skip))) (.seq (.reg [
    ⟨some 11, none, .faddr 4 (.tmp 2)⟩,
    ⟨some 12, none, .load true 1 (.tmp 11)⟩,
    ⟨some 13, none, .mov (.tmp 1)⟩,
    ⟨some 14, none, .call 82 [.tmp 12, .tmp 13]⟩,
    ⟨some 1, none, .mov (.tmp 14)⟩]) (.seq (.seq (.reg [
    ⟨some 15, none, .mov (.tmp 1)⟩,
    ⟨some 16, none, .bin .lss (.tmp 15) (.const (.int .i64 0))⟩]) (.cond (.tmp 16) (.seq (.reg [
    ⟨some 4, none, .mov (.const (.int .i64 (-1)))⟩]) (.ret)) (.skip))) (.seq (.reg [
    ⟨some 17, none, .faddr 8 (.tmp 2)⟩,
    ⟨some 18, none, .load true 1 (.tmp 17)⟩,
    ⟨some 19, none, .mov (.tmp 1)⟩,
    ⟨some 20, none, .call 83 [.tmp 18, .tmp 19]⟩,
    ⟨some 1, none, .mov (.tmp 20)⟩]) (.seq (.seq (.reg [
    ⟨some 21, none, .mov (.tmp 1)⟩,
    ⟨some 22, none, .bin .lss (.tmp 21) (.const (.int .i64 0))⟩]) (.cond (.tmp 22) (.seq (.reg [
    ⟨some 4, none, .mov (.const (.int .i64 (-1)))⟩]) (.ret)) (.skip))) (.seq (.reg [
    ⟨some 23, none, .mov (.tmp 1)⟩,
    ⟨some 4, none, .mov (.tmp 23)⟩]) (.ret))))))))
theorem t30 : Try.f30.body.bind (trC e30) = some c30 := by kernel_rfl
theorem r30 : Try.f30.results.toList.mapM (trR Try.prog) = some [.tmp 4] := by kernel_rfl
theorem fn30 {args : List Value} {M : Mem} {post : Value → Mem → Prop} (hl : args.length ≤ 24) (h : VC e30 c30 (fnQ [.tmp 4] post) (initS args 24) M) : Fn Try.prog 30 args M post :=
  Fn.of' (E := e30) Try.func30 t30 rfl r30 mixed hl h
/-! laws.toWord -/
noncomputable def e35 : Env := ⟨Try.prog, [1, 2, 3], 14, []⟩
noncomputable def c35 : C :=
  .seq (.reg [
    ⟨some 1, none, .box true (.tmp 0)⟩,
    ⟨some 2, none, .alloc true [.int .i64 0, .int .i64 0, .int .i64 0]⟩]) (.seq (.reg [
    ⟨some 3, none, .alloc true [.int .i64 0, .int .i64 0, .int .i64 0]⟩]) (.seq (.reg [
    ⟨some 4, none, .faddr 0 (.tmp 1)⟩,
    ⟨some 5, none, .load true 1 (.tmp 4)⟩,
    ⟨some 6, none, .faddr 0 (.tmp 3)⟩,
    ⟨none, none, .store 1 (.tmp 6) (.tmp 5)⟩]) (.seq (.reg [
    ⟨some 7, none, .faddr 1 (.tmp 1)⟩,
    ⟨some 8, none, .load true 1 (.tmp 7)⟩,
    ⟨some 9, none, .faddr 1 (.tmp 3)⟩,
    ⟨none, none, .store 1 (.tmp 9) (.tmp 8)⟩]) (.seq (.reg [
    ⟨some 10, none, .faddr 2 (.tmp 1)⟩,
    ⟨some 11, none, .load true 1 (.tmp 10)⟩,
    ⟨some 12, none, .faddr 2 (.tmp 3)⟩,
    ⟨none, none, .store 1 (.tmp 12) (.tmp 11)⟩]) (.seq (.reg [
    ⟨some 13, none, .load false 3 (.tmp 3)⟩,
    ⟨none, none, .store 3 (.tmp 2) (.tmp 13)⟩]) (.ret))))))
theorem t35 : Try.f35.body.bind (trC e35) = some c35 := by kernel_rfl
theorem r35 : Try.f35.results.toList.mapM (trR Try.prog) = some [.cell 2 false 3] := by kernel_rfl
theorem fn35 {args : List Value} {M : Mem} {post : Value → Mem → Prop} (hl : args.length ≤ 14) (h : VC e35 c35 (fnQ [.cell 2 false 3] post) (initS args 14) M) : Fn Try.prog 35 args M post :=
  Fn.of' (E := e35) Try.func35 t35 rfl r35 mixed hl h
/-! laws.toWordS -/
noncomputable def e92 : Env := ⟨Try.prog, [], 23, []⟩
noncomputable def c92 : C :=
  .seq (.reg [
    ⟨some 2, none, .mov (.const (.slice none 0 0))⟩]) (.seq (.reg [
    ⟨some 5, none, .mov (.tmp 0)⟩,
    ⟨some 6, none, .lenS (.tmp 5)⟩,
    ⟨some 7, none, .mkslice 3 24 [.int .i64 0, .int .i64 0, .int .i64 0] (.tmp 6) (.tmp 6)⟩,
    ⟨some 3, none, .mov (.tmp 7)⟩]) (.seq (.seq (.reg [
    ⟨some 4, none, .mov (.const (.int .i64 0))⟩]) (.block 0 (.loop (.seq (.seq (.reg [
    ⟨some 8, none, .mov (.tmp 4)⟩,
    ⟨some 9, none, .mov (.tmp 0)⟩,
    ⟨some 10, none, .lenS (.tmp 9)⟩,
    ⟨some 11, none, .bin .lss (.tmp 8) (.tmp 10)⟩]) (.cond (.tmp 11) (.skip) (.exit 0))) (.seq (.block 1 (.reg [
    ⟨some 14, none, .mov (.tmp 3)⟩,
    ⟨some 15, none, .mov (.tmp 4)⟩,
    ⟨some 16, none, .mov (.tmp 0)⟩,
    ⟨some 17, none, .mov (.tmp 4)⟩,
    ⟨some 18, none, .iaddr 3 (.tmp 16) (.tmp 17)⟩,
    ⟨some 19, none, .load false 3 (.tmp 18)⟩,
    ⟨some 20, none, .call 35 [.tmp 19]⟩,
    ⟨some 21, none, .iaddr 3 (.tmp 14) (.tmp 15)⟩,
    ⟨none, none, .store 3 (.tmp 21) (.tmp 20)⟩])) (.reg [
    ⟨some 12, none, .mov (.tmp 4)⟩,
    ⟨some 13, none, .bin .add (.tmp 12) (.const (.int .i64 1))⟩,
    ⟨some 4, none, .mov (.tmp 13)⟩])))))) (.seq (.reg [
    ⟨some 22, none, .mov (.tmp 3)⟩,
    ⟨some 2, none, .mov (.tmp 22)⟩]) (.ret))))
theorem t92 : Try.f92.body.bind (trC e92) = some c92 := by kernel_rfl
theorem r92 : Try.f92.results.toList.mapM (trR Try.prog) = some [.tmp 2] := by kernel_rfl
theorem fn92 {args : List Value} {M : Mem} {post : Value → Mem → Prop} (hl : args.length ≤ 23) (h : VC e92 c92 (fnQ [.tmp 2] post) (initS args 23) M) : Fn Try.prog 92 args M post :=
  Fn.of' (E := e92) Try.func92 t92 rfl r92 mixed hl h
/-! laws.toPair -/
noncomputable def e177 : Env := ⟨Try.prog, [1, 2, 3], 13, []⟩
noncomputable def c177 : C :=
  .seq (.reg [
    ⟨some 1, none, .box true (.tmp 0)⟩,
    ⟨some 2, none, .alloc true [.int .i64 0, .int .i64 0, .int .i64 0, .int .i64 0, .int .i64 0, .int .i64 0]⟩]) (.seq (.reg [
    ⟨some 3, none, .alloc true [.int .i64 0, .int .i64 0, .int .i64 0, .int .i64 0, .int .i64 0, .int .i64 0]⟩]) (.seq (.reg [
    ⟨some 4, none, .faddr 0 (.tmp 1)⟩,
    ⟨some 5, none, .load false 3 (.tmp 4)⟩,
    ⟨some 6, none, .call 35 [.tmp 5]⟩,
    ⟨some 7, none, .faddr 0 (.tmp 3)⟩,
    ⟨none, none, .store 3 (.tmp 7) (.tmp 6)⟩]) (.seq (.reg [
    ⟨some 8, none, .faddr 3 (.tmp 1)⟩,
    ⟨some 9, none, .load false 3 (.tmp 8)⟩,
    ⟨some 10, none, .call 35 [.tmp 9]⟩,
    ⟨some 11, none, .faddr 3 (.tmp 3)⟩,
    ⟨none, none, .store 3 (.tmp 11) (.tmp 10)⟩]) (.seq (.reg [
    ⟨some 12, none, .load false 6 (.tmp 3)⟩,
    ⟨none, none, .store 6 (.tmp 2) (.tmp 12)⟩]) (.ret)))))
theorem t177 : Try.f177.body.bind (trC e177) = some c177 := by kernel_rfl
theorem r177 : Try.f177.results.toList.mapM (trR Try.prog) = some [.cell 2 false 6] := by kernel_rfl
theorem fn177 {args : List Value} {M : Mem} {post : Value → Mem → Prop} (hl : args.length ≤ 13) (h : VC e177 c177 (fnQ [.cell 2 false 6] post) (initS args 13) M) : Fn Try.prog 177 args M post :=
  Fn.of' (E := e177) Try.func177 t177 rfl r177 mixed hl h
/-! laws.toPairS -/
noncomputable def e165 : Env := ⟨Try.prog, [], 23, []⟩
noncomputable def c165 : C :=
  .seq (.reg [
    ⟨some 2, none, .mov (.const (.slice none 0 0))⟩]) (.seq (.reg [
    ⟨some 5, none, .mov (.tmp 0)⟩,
    ⟨some 6, none, .lenS (.tmp 5)⟩,
    ⟨some 7, none, .mkslice 6 48 [.int .i64 0, .int .i64 0, .int .i64 0, .int .i64 0, .int .i64 0, .int .i64 0] (.tmp 6) (.tmp 6)⟩,
    ⟨some 3, none, .mov (.tmp 7)⟩]) (.seq (.seq (.reg [
    ⟨some 4, none, .mov (.const (.int .i64 0))⟩]) (.block 0 (.loop (.seq (.seq (.reg [
    ⟨some 8, none, .mov (.tmp 4)⟩,
    ⟨some 9, none, .mov (.tmp 0)⟩,
    ⟨some 10, none, .lenS (.tmp 9)⟩,
    ⟨some 11, none, .bin .lss (.tmp 8) (.tmp 10)⟩]) (.cond (.tmp 11) (.skip) (.exit 0))) (.seq (.block 1 (.reg [
    ⟨some 14, none, .mov (.tmp 3)⟩,
    ⟨some 15, none, .mov (.tmp 4)⟩,
    ⟨some 16, none, .mov (.tmp 0)⟩,
    ⟨some 17, none, .mov (.tmp 4)⟩,
    ⟨some 18, none, .iaddr 6 (.tmp 16) (.tmp 17)⟩,
    ⟨some 19, none, .load false 6 (.tmp 18)⟩,
    ⟨some 20, none, .call 177 [.tmp 19]⟩,
    ⟨some 21, none, .iaddr 6 (.tmp 14) (.tmp 15)⟩,
    ⟨none, none, .store 6 (.tmp 21) (.tmp 20)⟩])) (.reg [
    ⟨some 12, none, .mov (.tmp 4)⟩,
    ⟨some 13, none, .bin .add (.tmp 12) (.const (.int .i64 1))⟩,
    ⟨some 4, none, .mov (.tmp 13)⟩])))))) (.seq (.reg [
    ⟨some 22, none, .mov (.tmp 3)⟩,
    ⟨some 2, none, .mov (.tmp 22)⟩]) (.ret))))
theorem t165 : Try.f165.body.bind (trC e165) = some c165 := by kernel_rfl
theorem r165 : Try.f165.results.toList.mapM (trR Try.prog) = some [.tmp 2] := by kernel_rfl
theorem fn165 {args : List Value} {M : Mem} {post : Value → Mem → Prop} (hl : args.length ≤ 23) (h : VC e165 c165 (fnQ [.tmp 2] post) (initS args 23) M) : Fn Try.prog 165 args M post :=
  Fn.of' (E := e165) Try.func165 t165 rfl r165 mixed hl h
/-! laws.toCell -/
noncomputable def e140 : Env := ⟨Try.prog, [1, 2, 3], 30, []⟩
noncomputable def c140 : C :=
  .seq (.reg [
    ⟨some 1, none, .box true (.tmp 0)⟩,
    ⟨some 2, none, .alloc true [.int .i64 0, .int .i64 0, .int .i64 0, .int .i64 0, .int .i64 0, .int .i64 0, .int .i64 0, .slice none 0 0]⟩]) (.seq (.reg [
    ⟨some 3, none, .alloc true [.int .i64 0, .int .i64 0, .int .i64 0, .int .i64 0, .int .i64 0, .int .i64 0, .int .i64 0, .slice none 0 0]⟩]) (.seq (.reg [
    ⟨some 4, none, .faddr 0 (.tmp 1)⟩,
    ⟨some 5, none, .load true 1 (.tmp 4)⟩,
    ⟨some 6, none, .faddr 0 (.tmp 3)⟩,
    ⟨none, none, .store 1 (.tmp 6) (.tmp 5)⟩]) (.seq (.reg [
    ⟨some 7, none, .faddr 1 (.tmp 1)⟩,
    ⟨some 8, none, .load true 1 (.tmp 7)⟩,
    ⟨some 9, none, .faddr 1 (.tmp 3)⟩,
    ⟨none, none, .store 1 (.tmp 9) (.tmp 8)⟩]) (.seq (.reg [
    ⟨some 10, none, .faddr 2 (.tmp 1)⟩,
    ⟨some 11, none, .load true 1 (.tmp 10)⟩,
    ⟨some 12, none, .faddr 2 (.tmp 3)⟩,
    ⟨none, none, .store 1 (.tmp 12) (.tmp 11)⟩]) (.seq (.reg [
    ⟨some 13, none, .faddr 3 (.tmp 1)⟩,
    ⟨some 14, none, .load true 1 (.tmp 13)⟩,
    ⟨some 15, none, .faddr 3 (.tmp 3)⟩,
    ⟨none, none, .store 1 (.tmp 15) (.tmp 14)⟩]) (.seq (.reg [
    ⟨some 16, none, .faddr 4 (.tmp 1)⟩,
    ⟨some 17, none, .load true 1 (.tmp 16)⟩,
    ⟨some 18, none, .faddr 4 (.tmp 3)⟩,
    ⟨none, none, .store 1 (.tmp 18) (.tmp 17)⟩]) (.seq (.reg [
    ⟨some 19, none, .faddr 5 (.tmp 1)⟩,
    ⟨some 20, none, .load true 1 (.tmp 19)⟩,
    ⟨some 21, none, .faddr 5 (.tmp 3)⟩,
    ⟨none, none, .store 1 (.tmp 21) (.tmp 20)⟩]) (.seq (.reg [
    ⟨some 22, none, .faddr 6 (.tmp 1)⟩,
    ⟨some 23, none, .load true 1 (.tmp 22)⟩,
    ⟨some 24, none, .faddr 6 (.tmp 3)⟩,
    ⟨none, none, .store 1 (.tmp 24) (.tmp 23)⟩]) (.seq (.reg [
    ⟨some 25, none, .faddr 7 (.tmp 1)⟩,
    ⟨some 26, none, .load true 1 (.tmp 25)⟩,
    ⟨some 27, none, .call 165 [.tmp 26]⟩,
    ⟨some 28, none, .faddr 7 (.tmp 3)⟩,
    ⟨none, none, .store 1 (.tmp 28) (.tmp 27)⟩]) (.seq (.reg [
    ⟨some 29, none, .load false 8 (.tmp 3)⟩,
    ⟨none, none, .store 8 (.tmp 2) (.tmp 29)⟩]) (.ret)))))))))))
theorem t140 : Try.f140.body.bind (trC e140) = some c140 := by kernel_rfl
theorem r140 : Try.f140.results.toList.mapM (trR Try.prog) = some [.cell 2 false 8] := by kernel_rfl
theorem fn140 {args : List Value} {M : Mem} {post : Value → Mem → Prop} (hl : args.length ≤ 30) (h : VC e140 c140 (fnQ [.cell 2 false 8] post) (initS args 30) M) : Fn Try.prog 140 args M post :=
  Fn.of' (E := e140) Try.func140 t140 rfl r140 mixed hl h
/-! laws.toCellS -/
noncomputable def e93 : Env := ⟨Try.prog, [], 23, []⟩
noncomputable def c93 : C :=
  .seq (.reg [
    ⟨some 2, none, .mov (.const (.slice none 0 0))⟩]) (.seq (.reg [
    ⟨some 5, none, .mov (.tmp 0)⟩,
    ⟨some 6, none, .lenS (.tmp 5)⟩,
    ⟨some 7, none, .mkslice 8 80 [.int .i64 0, .int .i64 0, .int .i64 0, .int .i64 0, .int .i64 0, .int .i64 0, .int .i64 0, .slice none 0 0] (.tmp 6) (.tmp 6)⟩,
    ⟨some 3, none, .mov (.tmp 7)⟩]) (.seq (.seq (.reg [
    ⟨some 4, none, .mov (.const (.int .i64 0))⟩]) (.block 0 (.loop (.seq (.seq (.reg [
    ⟨some 8, none, .mov (.tmp 4)⟩,
    ⟨some 9, none, .mov (.tmp 0)⟩,
    ⟨some 10, none, .lenS (.tmp 9)⟩,
    ⟨some 11, none, .bin .lss (.tmp 8) (.tmp 10)⟩]) (.cond (.tmp 11) (.skip) (.exit 0))) (.seq (.block 1 (.reg [
    ⟨some 14, none, .mov (.tmp 3)⟩,
    ⟨some 15, none, .mov (.tmp 4)⟩,
    ⟨some 16, none, .mov (.tmp 0)⟩,
    ⟨some 17, none, .mov (.tmp 4)⟩,
    ⟨some 18, none, .iaddr 8 (.tmp 16) (.tmp 17)⟩,
    ⟨some 19, none, .load false 8 (.tmp 18)⟩,
    ⟨some 20, none, .call 140 [.tmp 19]⟩,
    ⟨some 21, none, .iaddr 8 (.tmp 14) (.tmp 15)⟩,
    ⟨none, none, .store 8 (.tmp 21) (.tmp 20)⟩])) (.reg [
    ⟨some 12, none, .mov (.tmp 4)⟩,
    ⟨some 13, none, .bin .add (.tmp 12) (.const (.int .i64 1))⟩,
    ⟨some 4, none, .mov (.tmp 13)⟩])))))) (.seq (.reg [
    ⟨some 22, none, .mov (.tmp 3)⟩,
    ⟨some 2, none, .mov (.tmp 22)⟩]) (.ret))))
theorem t93 : Try.f93.body.bind (trC e93) = some c93 := by kernel_rfl
theorem r93 : Try.f93.results.toList.mapM (trR Try.prog) = some [.tmp 2] := by kernel_rfl
theorem fn93 {args : List Value} {M : Mem} {post : Value → Mem → Prop} (hl : args.length ≤ 23) (h : VC e93 c93 (fnQ [.tmp 2] post) (initS args 23) M) : Fn Try.prog 93 args M post :=
  Fn.of' (E := e93) Try.func93 t93 rfl r93 mixed hl h
/-! laws.toIntS -/
noncomputable def e94 : Env := ⟨Try.prog, [], 22, []⟩
noncomputable def c94 : C :=
  .seq (.reg [
    ⟨some 2, none, .mov (.const (.slice none 0 0))⟩]) (.seq (.reg [
    ⟨some 5, none, .mov (.tmp 0)⟩,
    ⟨some 6, none, .lenS (.tmp 5)⟩,
    ⟨some 7, none, .mkslice 1 8 [.int .i64 0] (.tmp 6) (.tmp 6)⟩,
    ⟨some 3, none, .mov (.tmp 7)⟩]) (.seq (.seq (.reg [
    ⟨some 4, none, .mov (.const (.int .i64 0))⟩]) (.block 0 (.loop (.seq (.seq (.reg [
    ⟨some 8, none, .mov (.tmp 4)⟩,
    ⟨some 9, none, .mov (.tmp 0)⟩,
    ⟨some 10, none, .lenS (.tmp 9)⟩,
    ⟨some 11, none, .bin .lss (.tmp 8) (.tmp 10)⟩]) (.cond (.tmp 11) (.skip) (.exit 0))) (.seq (.block 1 (.reg [
    ⟨some 14, none, .mov (.tmp 3)⟩,
    ⟨some 15, none, .mov (.tmp 4)⟩,
    ⟨some 16, none, .mov (.tmp 0)⟩,
    ⟨some 17, none, .mov (.tmp 4)⟩,
    ⟨some 18, none, .iaddr 1 (.tmp 16) (.tmp 17)⟩,
    ⟨some 19, none, .load true 1 (.tmp 18)⟩,
    ⟨some 20, none, .iaddr 1 (.tmp 14) (.tmp 15)⟩,
    ⟨none, none, .store 1 (.tmp 20) (.tmp 19)⟩])) (.reg [
    ⟨some 12, none, .mov (.tmp 4)⟩,
    ⟨some 13, none, .bin .add (.tmp 12) (.const (.int .i64 1))⟩,
    ⟨some 4, none, .mov (.tmp 13)⟩])))))) (.seq (.reg [
    ⟨some 21, none, .mov (.tmp 3)⟩,
    ⟨some 2, none, .mov (.tmp 21)⟩]) (.ret))))
theorem t94 : Try.f94.body.bind (trC e94) = some c94 := by kernel_rfl
theorem r94 : Try.f94.results.toList.mapM (trR Try.prog) = some [.tmp 2] := by kernel_rfl
theorem fn94 {args : List Value} {M : Mem} {post : Value → Mem → Prop} (hl : args.length ≤ 22) (h : VC e94 c94 (fnQ [.tmp 2] post) (initS args 22) M) : Fn Try.prog 94 args M post :=
  Fn.of' (E := e94) Try.func94 t94 rfl r94 mixed hl h
/-! laws.toHeap -/
noncomputable def e32 : Env := ⟨Try.prog, [1, 2, 3], 47, []⟩
noncomputable def c32 : C :=
  .seq (.reg [
    ⟨some 1, none, .box true (.tmp 0)⟩,
    ⟨some 2, none, .alloc true [.int .i64 0, .int .i64 0, .int .i64 0, .slice none 0 0, .slice none 0 0, .int .i64 0, .int .i64 0, .int .i64 0, .slice none 0 0, .int .i64 0, .int .i64 0, .int .i64 0, .int .i64 0]⟩]) (.seq (.reg [
    ⟨some 3, none, .alloc true [.int .i64 0, .int .i64 0, .int .i64 0, .slice none 0 0, .slice none 0 0, .int .i64 0, .int .i64 0, .int .i64 0, .slice none 0 0, .int .i64 0, .int .i64 0, .int .i64 0, .int .i64 0]⟩]) (.seq (.reg [
    ⟨some 4, none, .faddr 0 (.tmp 1)⟩,
    ⟨some 5, none, .load true 1 (.tmp 4)⟩,
    ⟨some 6, none, .faddr 0 (.tmp 3)⟩,
    ⟨none, none, .store 1 (.tmp 6) (.tmp 5)⟩]) (.seq (.reg [
    ⟨some 7, none, .faddr 1 (.tmp 1)⟩,
    ⟨some 8, none, .load true 1 (.tmp 7)⟩,
    ⟨some 9, none, .faddr 1 (.tmp 3)⟩,
    ⟨none, none, .store 1 (.tmp 9) (.tmp 8)⟩]) (.seq (.reg [
    ⟨some 10, none, .faddr 2 (.tmp 1)⟩,
    ⟨some 11, none, .load true 1 (.tmp 10)⟩,
    ⟨some 12, none, .faddr 2 (.tmp 3)⟩,
    ⟨none, none, .store 1 (.tmp 12) (.tmp 11)⟩]) (.seq (.reg [
    ⟨some 13, none, .faddr 3 (.tmp 1)⟩,
    ⟨some 14, none, .load true 1 (.tmp 13)⟩,
    ⟨some 15, none, .call 92 [.tmp 14]⟩,
    ⟨some 16, none, .faddr 3 (.tmp 3)⟩,
    ⟨none, none, .store 1 (.tmp 16) (.tmp 15)⟩]) (.seq (.reg [
    ⟨some 17, none, .faddr 4 (.tmp 1)⟩,
    ⟨some 18, none, .load true 1 (.tmp 17)⟩,
    ⟨some 19, none, .call 93 [.tmp 18]⟩,
    ⟨some 20, none, .faddr 4 (.tmp 3)⟩,
    ⟨none, none, .store 1 (.tmp 20) (.tmp 19)⟩]) (.seq (.reg [
    ⟨some 21, none, .faddr 5 (.tmp 1)⟩,
    ⟨some 22, none, .load true 1 (.tmp 21)⟩,
    ⟨some 23, none, .faddr 5 (.tmp 3)⟩,
    ⟨none, none, .store 1 (.tmp 23) (.tmp 22)⟩]) (.seq (.reg [
    ⟨some 24, none, .faddr 6 (.tmp 1)⟩,
    ⟨some 25, none, .load true 1 (.tmp 24)⟩,
    ⟨some 26, none, .faddr 6 (.tmp 3)⟩,
    ⟨none, none, .store 1 (.tmp 26) (.tmp 25)⟩]) (.seq (.reg [
    ⟨some 27, none, .faddr 7 (.tmp 1)⟩,
    ⟨some 28, none, .load true 1 (.tmp 27)⟩,
    ⟨some 29, none, .faddr 7 (.tmp 3)⟩,
    ⟨none, none, .store 1 (.tmp 29) (.tmp 28)⟩]) (.seq (.reg [
    ⟨some 30, none, .faddr 8 (.tmp 1)⟩,
    ⟨some 31, none, .load true 1 (.tmp 30)⟩,
    ⟨some 32, none, .call 94 [.tmp 31]⟩,
    ⟨some 33, none, .faddr 8 (.tmp 3)⟩,
    ⟨none, none, .store 1 (.tmp 33) (.tmp 32)⟩]) (.seq (.reg [
    ⟨some 34, none, .faddr 9 (.tmp 1)⟩,
    ⟨some 35, none, .load true 1 (.tmp 34)⟩,
    ⟨some 36, none, .faddr 9 (.tmp 3)⟩,
    ⟨none, none, .store 1 (.tmp 36) (.tmp 35)⟩]) (.seq (.reg [
    ⟨some 37, none, .faddr 10 (.tmp 1)⟩,
    ⟨some 38, none, .load true 1 (.tmp 37)⟩,
    ⟨some 39, none, .faddr 10 (.tmp 3)⟩,
    ⟨none, none, .store 1 (.tmp 39) (.tmp 38)⟩]) (.seq (.reg [
    ⟨some 40, none, .faddr 11 (.tmp 1)⟩,
    ⟨some 41, none, .load true 1 (.tmp 40)⟩,
    ⟨some 42, none, .faddr 11 (.tmp 3)⟩,
    ⟨none, none, .store 1 (.tmp 42) (.tmp 41)⟩]) (.seq (.reg [
    ⟨some 43, none, .faddr 12 (.tmp 1)⟩,
    ⟨some 44, none, .load true 1 (.tmp 43)⟩,
    ⟨some 45, none, .faddr 12 (.tmp 3)⟩,
    ⟨none, none, .store 1 (.tmp 45) (.tmp 44)⟩]) (.seq (.reg [
    ⟨some 46, none, .load false 13 (.tmp 3)⟩,
    ⟨none, none, .store 13 (.tmp 2) (.tmp 46)⟩]) (.ret))))))))))))))))
theorem t32 : Try.f32.body.bind (trC e32) = some c32 := by kernel_rfl
theorem r32 : Try.f32.results.toList.mapM (trR Try.prog) = some [.cell 2 false 13] := by kernel_rfl
theorem fn32 {args : List Value} {M : Mem} {post : Value → Mem → Prop} (hl : args.length ≤ 47) (h : VC e32 c32 (fnQ [.cell 2 false 13] post) (initS args 47) M) : Fn Try.prog 32 args M post :=
  Fn.of' (E := e32) Try.func32 t32 rfl r32 mixed hl h
/-! laws.markWordS -/
noncomputable def e75 : Env := ⟨Try.prog, [], 34, []⟩
noncomputable def c75 : C :=
  .seq (.reg [
    ⟨some 4, none, .mov (.const (.int .i64 0))⟩]) (.seq (.seq (.reg [
    ⟨some 5, none, .mov (.const (.int .i64 0))⟩]) (.block 0 (.loop (.seq (.seq (.reg [
    ⟨some 6, none, .mov (.tmp 5)⟩,
    ⟨some 7, none, .mov (.tmp 0)⟩,
    ⟨some 8, none, .lenS (.tmp 7)⟩,
    ⟨some 9, none, .bin .lss (.tmp 6) (.tmp 8)⟩]) (.cond (.tmp 9) (.skip) (.exit 0))) (.seq (.block 1 (.seq (.reg [
    ⟨some 12, none, .mov (.tmp 0)⟩,
    ⟨some 13, none, .mov (.tmp 5)⟩,
    ⟨some 14, none, .mov (.tmp 1)⟩,
    ⟨some 15, none, .iaddr 3 (.tmp 12) (.tmp 13)⟩,
    ⟨some 16, none, .faddr 0 (.tmp 15)⟩,
    ⟨none, none, .store 1 (.tmp 16) (.tmp 14)⟩]) (.seq (.reg [
    ⟨some 17, none, .mov (.tmp 1)⟩,
    ⟨some 18, none, .bin .add (.tmp 17) (.const (.int .i64 1))⟩,
    ⟨some 1, none, .mov (.tmp 18)⟩]) (.seq (.reg [
    ⟨some 19, none, .mov (.tmp 0)⟩,
    ⟨some 20, none, .mov (.tmp 5)⟩,
    ⟨some 21, none, .mov (.tmp 1)⟩,
    ⟨some 22, none, .iaddr 3 (.tmp 19) (.tmp 20)⟩,
    ⟨some 23, none, .faddr 1 (.tmp 22)⟩,
    ⟨none, none, .store 1 (.tmp 23) (.tmp 21)⟩]) (.seq (.reg [
    ⟨some 24, none, .mov (.tmp 1)⟩,
    ⟨some 25, none, .bin .add (.tmp 24) (.const (.int .i64 1))⟩,
    ⟨some 1, none, .mov (.tmp 25)⟩]) (.seq (.reg [
    ⟨some 26, none, .mov (.tmp 0)⟩,
    ⟨some 27, none, .mov (.tmp 5)⟩,
    ⟨some 28, none, .mov (.tmp 1)⟩,
    ⟨some 29, none, .iaddr 3 (.tmp 26) (.tmp 27)⟩,
    ⟨some 30, none, .faddr 2 (.tmp 29)⟩,
    ⟨none, none, .store 1 (.tmp 30) (.tmp 28)⟩]) (.reg [
    ⟨some 31, none, .mov (.tmp 1)⟩,
    ⟨some 32, none, .bin .add (.tmp 31) (.const (.int .i64 1))⟩,
    ⟨some 1, none, .mov (.tmp 32)⟩]))))))) (.reg [
    ⟨some 10, none, .mov (.tmp 5)⟩,
    ⟨some 11, none, .bin .add (.tmp 10) (.const (.int .i64 1))⟩,
    ⟨some 5, none, .mov (.tmp 11)⟩])))))) (.seq (.reg [
    ⟨some 33, none, .mov (.tmp 1)⟩,
    ⟨some 4, none, .mov (.tmp 33)⟩]) (.ret)))
theorem t75 : Try.f75.body.bind (trC e75) = some c75 := by kernel_rfl
theorem r75 : Try.f75.results.toList.mapM (trR Try.prog) = some [.tmp 4] := by kernel_rfl
theorem fn75 {args : List Value} {M : Mem} {post : Value → Mem → Prop} (hl : args.length ≤ 34) (h : VC e75 c75 (fnQ [.tmp 4] post) (initS args 34) M) : Fn Try.prog 75 args M post :=
  Fn.of' (E := e75) Try.func75 t75 rfl r75 mixed hl h
/-! laws.heldWordS -/
noncomputable def e78 : Env := ⟨Try.prog, [], 40, []⟩
noncomputable def c78 : C :=
  .seq (.reg [
    ⟨some 4, none, .mov (.const (.int .i64 0))⟩]) (.seq (.seq (.reg [
    ⟨some 5, none, .mov (.const (.int .i64 0))⟩]) (.block 0 (.loop (.seq (.seq (.reg [
    ⟨some 6, none, .mov (.tmp 5)⟩,
    ⟨some 7, none, .mov (.tmp 0)⟩,
    ⟨some 8, none, .lenS (.tmp 7)⟩,
    ⟨some 9, none, .bin .lss (.tmp 6) (.tmp 8)⟩]) (.cond (.tmp 9) (.skip) (.exit 0))) (.seq (.block 1 (.seq (.seq (.reg [
    ⟨some 12, none, .mov (.tmp 0)⟩,
    ⟨some 13, none, .mov (.tmp 5)⟩,
    ⟨some 14, none, .iaddr 3 (.tmp 12) (.tmp 13)⟩,
    ⟨some 15, none, .faddr 0 (.tmp 14)⟩,
    ⟨some 16, none, .load true 1 (.tmp 15)⟩,
    ⟨some 17, none, .mov (.tmp 1)⟩,
    ⟨some 18, none, .bin .neq (.tmp 16) (.tmp 17)⟩]) (.cond (.tmp 18) (.seq (.reg [
    ⟨some 4, none, .mov (.const (.int .i64 (-1)))⟩]) (.ret)) (.skip))) (.seq (.reg [
    ⟨some 19, none, .mov (.tmp 1)⟩,
    ⟨some 20, none, .bin .add (.tmp 19) (.const (.int .i64 1))⟩,
    ⟨some 1, none, .mov (.tmp 20)⟩]) (.seq (.seq (.reg [
    ⟨some 21, none, .mov (.tmp 0)⟩,
    ⟨some 22, none, .mov (.tmp 5)⟩,
    ⟨some 23, none, .iaddr 3 (.tmp 21) (.tmp 22)⟩,
    ⟨some 24, none, .faddr 1 (.tmp 23)⟩,
    ⟨some 25, none, .load true 1 (.tmp 24)⟩,
    ⟨some 26, none, .mov (.tmp 1)⟩,
    ⟨some 27, none, .bin .neq (.tmp 25) (.tmp 26)⟩]) (.cond (.tmp 27) (.seq (.reg [
    ⟨some 4, none, .mov (.const (.int .i64 (-1)))⟩]) (.ret)) (.skip))) (.seq (.reg [
    ⟨some 28, none, .mov (.tmp 1)⟩,
    ⟨some 29, none, .bin .add (.tmp 28) (.const (.int .i64 1))⟩,
    ⟨some 1, none, .mov (.tmp 29)⟩]) (.seq (.seq (.reg [
    ⟨some 30, none, .mov (.tmp 0)⟩,
    ⟨some 31, none, .mov (.tmp 5)⟩,
    ⟨some 32, none, .iaddr 3 (.tmp 30) (.tmp 31)⟩,
    ⟨some 33, none, .faddr 2 (.tmp 32)⟩,
    ⟨some 34, none, .load true 1 (.tmp 33)⟩,
    ⟨some 35, none, .mov (.tmp 1)⟩,
    ⟨some 36, none, .bin .neq (.tmp 34) (.tmp 35)⟩]) (.cond (.tmp 36) (.seq (.reg [
    ⟨some 4, none, .mov (.const (.int .i64 (-1)))⟩]) (.ret)) (.skip))) (.reg [
    ⟨some 37, none, .mov (.tmp 1)⟩,
    ⟨some 38, none, .bin .add (.tmp 37) (.const (.int .i64 1))⟩,
    ⟨some 1, none, .mov (.tmp 38)⟩]))))))) (.reg [
    ⟨some 10, none, .mov (.tmp 5)⟩,
    ⟨some 11, none, .bin .add (.tmp 10) (.const (.int .i64 1))⟩,
    ⟨some 5, none, .mov (.tmp 11)⟩])))))) (.seq (.reg [
    ⟨some 39, none, .mov (.tmp 1)⟩,
    ⟨some 4, none, .mov (.tmp 39)⟩]) (.ret)))
theorem t78 : Try.f78.body.bind (trC e78) = some c78 := by kernel_rfl
theorem r78 : Try.f78.results.toList.mapM (trR Try.prog) = some [.tmp 4] := by kernel_rfl
theorem fn78 {args : List Value} {M : Mem} {post : Value → Mem → Prop} (hl : args.length ≤ 40) (h : VC e78 c78 (fnQ [.tmp 4] post) (initS args 40) M) : Fn Try.prog 78 args M post :=
  Fn.of' (E := e78) Try.func78 t78 rfl r78 mixed hl h
/-! laws.markPairS -/
noncomputable def e131 : Env := ⟨Try.prog, [], 61, []⟩
noncomputable def c131 : C :=
  .seq (.reg [
    ⟨some 4, none, .mov (.const (.int .i64 0))⟩]) (.seq (.seq (.reg [
    ⟨some 5, none, .mov (.const (.int .i64 0))⟩]) (.block 0 (.loop (.seq (.seq (.reg [
    ⟨some 6, none, .mov (.tmp 5)⟩,
    ⟨some 7, none, .mov (.tmp 0)⟩,
    ⟨some 8, none, .lenS (.tmp 7)⟩,
    ⟨some 9, none, .bin .lss (.tmp 6) (.tmp 8)⟩]) (.cond (.tmp 9) (.skip) (.exit 0))) (.seq (.block 1 (.seq (.reg [
    ⟨some 12, none, .mov (.tmp 0)⟩,
    ⟨some 13, none, .mov (.tmp 5)⟩,
    ⟨some 14, none, .mov (.tmp 1)⟩,
    ⟨some 15, none, .iaddr 6 (.tmp 12) (.tmp 13)⟩,
    ⟨some 16, none, .faddr 0 (.tmp 15)⟩,
    ⟨some 17, none, .faddr 0 (.tmp 16)⟩,
    ⟨none, none, .store 1 (.tmp 17) (.tmp 14)⟩]) (.seq (.reg [
    ⟨some 18, none, .mov (.tmp 1)⟩,
    ⟨some 19, none, .bin .add (.tmp 18) (.const (.int .i64 1))⟩,
    ⟨some 1, none, .mov (.tmp 19)⟩]) (.seq (.reg [
    ⟨some 20, none, .mov (.tmp 0)⟩,
    ⟨some 21, none, .mov (.tmp 5)⟩,
    ⟨some 22, none, .mov (.tmp 1)⟩,
    ⟨some 23, none, .iaddr 6 (.tmp 20) (.tmp 21)⟩,
    ⟨some 24, none, .faddr 0 (.tmp 23)⟩,
    ⟨some 25, none, .faddr 1 (.tmp 24)⟩,
    ⟨none, none, .store 1 (.tmp 25) (.tmp 22)⟩]) (.seq (.reg [
    ⟨some 26, none, .mov (.tmp 1)⟩,
    ⟨some 27, none, .bin .add (.tmp 26) (.const (.int .i64 1))⟩,
    ⟨some 1, none, .mov (.tmp 27)⟩]) (.seq (.reg [
    ⟨some 28, none, .mov (.tmp 0)⟩,
    ⟨some 29, none, .mov (.tmp 5)⟩,
    ⟨some 30, none, .mov (.tmp 1)⟩,
    ⟨some 31, none, .iaddr 6 (.tmp 28) (.tmp 29)⟩,
    ⟨some 32, none, .faddr 0 (.tmp 31)⟩,
    ⟨some 33, none, .faddr 2 (.tmp 32)⟩,
    ⟨none, none, .store 1 (.tmp 33) (.tmp 30)⟩]) (.seq (.reg [
    ⟨some 34, none, .mov (.tmp 1)⟩,
    ⟨some 35, none, .bin .add (.tmp 34) (.const (.int .i64 1))⟩,
    ⟨some 1, none, .mov (.tmp 35)⟩]) (.seq (.reg [
    ⟨some 36, none, .mov (.tmp 0)⟩,
    ⟨some 37, none, .mov (.tmp 5)⟩,
    ⟨some 38, none, .mov (.tmp 1)⟩,
    ⟨some 39, none, .iaddr 6 (.tmp 36) (.tmp 37)⟩,
    ⟨some 40, none, .faddr 3 (.tmp 39)⟩,
    ⟨some 41, none, .faddr 0 (.tmp 40)⟩,
    ⟨none, none, .store 1 (.tmp 41) (.tmp 38)⟩]) (.seq (.reg [
    ⟨some 42, none, .mov (.tmp 1)⟩,
    ⟨some 43, none, .bin .add (.tmp 42) (.const (.int .i64 1))⟩,
    ⟨some 1, none, .mov (.tmp 43)⟩]) (.seq (.reg [
    ⟨some 44, none, .mov (.tmp 0)⟩,
    ⟨some 45, none, .mov (.tmp 5)⟩,
    ⟨some 46, none, .mov (.tmp 1)⟩,
    ⟨some 47, none, .iaddr 6 (.tmp 44) (.tmp 45)⟩,
    ⟨some 48, none, .faddr 3 (.tmp 47)⟩,
    ⟨some 49, none, .faddr 1 (.tmp 48)⟩,
    ⟨none, none, .store 1 (.tmp 49) (.tmp 46)⟩]) (.seq (.reg [
    ⟨some 50, none, .mov (.tmp 1)⟩,
    ⟨some 51, none, .bin .add (.tmp 50) (.const (.int .i64 1))⟩,
    ⟨some 1, none, .mov (.tmp 51)⟩]) (.seq (.reg [
    ⟨some 52, none, .mov (.tmp 0)⟩,
    ⟨some 53, none, .mov (.tmp 5)⟩,
    ⟨some 54, none, .mov (.tmp 1)⟩,
    ⟨some 55, none, .iaddr 6 (.tmp 52) (.tmp 53)⟩,
    ⟨some 56, none, .faddr 3 (.tmp 55)⟩,
    ⟨some 57, none, .faddr 2 (.tmp 56)⟩,
    ⟨none, none, .store 1 (.tmp 57) (.tmp 54)⟩]) (.reg [
    ⟨some 58, none, .mov (.tmp 1)⟩,
    ⟨some 59, none, .bin .add (.tmp 58) (.const (.int .i64 1))⟩,
    ⟨some 1, none, .mov (.tmp 59)⟩]))))))))))))) (.reg [
    ⟨some 10, none, .mov (.tmp 5)⟩,
    ⟨some 11, none, .bin .add (.tmp 10) (.const (.int .i64 1))⟩,
    ⟨some 5, none, .mov (.tmp 11)⟩])))))) (.seq (.reg [
    ⟨some 60, none, .mov (.tmp 1)⟩,
    ⟨some 4, none, .mov (.tmp 60)⟩]) (.ret)))
theorem t131 : Try.f131.body.bind (trC e131) = some c131 := by kernel_rfl
theorem r131 : Try.f131.results.toList.mapM (trR Try.prog) = some [.tmp 4] := by kernel_rfl
theorem fn131 {args : List Value} {M : Mem} {post : Value → Mem → Prop} (hl : args.length ≤ 61) (h : VC e131 c131 (fnQ [.tmp 4] post) (initS args 61) M) : Fn Try.prog 131 args M post :=
  Fn.of' (E := e131) Try.func131 t131 rfl r131 mixed hl h
/-! laws.heldPairS -/
noncomputable def e132 : Env := ⟨Try.prog, [], 73, []⟩
noncomputable def c132 : C :=
  .seq (.reg [
    ⟨some 4, none, .mov (.const (.int .i64 0))⟩]) (.seq (.seq (.reg [
    ⟨some 5, none, .mov (.const (.int .i64 0))⟩]) (.block 0 (.loop (.seq (.seq (.reg [
    ⟨some 6, none, .mov (.tmp 5)⟩,
    ⟨some 7, none, .mov (.tmp 0)⟩,
    ⟨some 8, none, .lenS (.tmp 7)⟩,
    ⟨some 9, none, .bin .lss (.tmp 6) (.tmp 8)⟩]) (.cond (.tmp 9) (.skip) (.exit 0))) (.seq (.block 1 (.seq (.seq (.reg [
    ⟨some 12, none, .mov (.tmp 0)⟩,
    ⟨some 13, none, .mov (.tmp 5)⟩,
    ⟨some 14, none, .iaddr 6 (.tmp 12) (.tmp 13)⟩,
    ⟨some 15, none, .faddr 0 (.tmp 14)⟩,
    ⟨some 16, none, .faddr 0 (.tmp 15)⟩,
    ⟨some 17, none, .load true 1 (.tmp 16)⟩,
    ⟨some 18, none, .mov (.tmp 1)⟩,
    ⟨some 19, none, .bin .neq (.tmp 17) (.tmp 18)⟩]) (.cond (.tmp 19) (.seq (.reg [
    ⟨some 4, none, .mov (.const (.int .i64 (-1)))⟩]) (.ret)) (.skip))) (.seq (.reg [
    ⟨some 20, none, .mov (.tmp 1)⟩,
    ⟨some 21, none, .bin .add (.tmp 20) (.const (.int .i64 1))⟩,
    ⟨some 1, none, .mov (.tmp 21)⟩]) (.seq (.seq (.reg [
    ⟨some 22, none, .mov (.tmp 0)⟩,
    ⟨some 23, none, .mov (.tmp 5)⟩,
    ⟨some 24, none, .iaddr 6 (.tmp 22) (.tmp 23)⟩,
    ⟨some 25, none, .faddr 0 (.tmp 24)⟩,
    ⟨some 26, none, .faddr 1 (.tmp 25)⟩,
    ⟨some 27, none, .load true 1 (.tmp 26)⟩,
    ⟨some 28, none, .mov (.tmp 1)⟩,
    ⟨some 29, none, .bin .neq (.tmp 27) (.tmp 28)⟩]) (.cond (.tmp 29) (.seq (.reg [
    ⟨some 4, none, .mov (.const (.int .i64 (-1)))⟩]) (.ret)) (.skip))) (.seq (.reg [
    ⟨some 30, none, .mov (.tmp 1)⟩,
    ⟨some 31, none, .bin .add (.tmp 30) (.const (.int .i64 1))⟩,
    ⟨some 1, none, .mov (.tmp 31)⟩]) (.seq (.seq (.reg [
    ⟨some 32, none, .mov (.tmp 0)⟩,
    ⟨some 33, none, .mov (.tmp 5)⟩,
    ⟨some 34, none, .iaddr 6 (.tmp 32) (.tmp 33)⟩,
    ⟨some 35, none, .faddr 0 (.tmp 34)⟩,
    ⟨some 36, none, .faddr 2 (.tmp 35)⟩,
    ⟨some 37, none, .load true 1 (.tmp 36)⟩,
    ⟨some 38, none, .mov (.tmp 1)⟩,
    ⟨some 39, none, .bin .neq (.tmp 37) (.tmp 38)⟩]) (.cond (.tmp 39) (.seq (.reg [
    ⟨some 4, none, .mov (.const (.int .i64 (-1)))⟩]) (.ret)) (.skip))) (.seq (.reg [
    ⟨some 40, none, .mov (.tmp 1)⟩,
    ⟨some 41, none, .bin .add (.tmp 40) (.const (.int .i64 1))⟩,
    ⟨some 1, none, .mov (.tmp 41)⟩]) (.seq (.seq (.reg [
    ⟨some 42, none, .mov (.tmp 0)⟩,
    ⟨some 43, none, .mov (.tmp 5)⟩,
    ⟨some 44, none, .iaddr 6 (.tmp 42) (.tmp 43)⟩,
    ⟨some 45, none, .faddr 3 (.tmp 44)⟩,
    ⟨some 46, none, .faddr 0 (.tmp 45)⟩,
    ⟨some 47, none, .load true 1 (.tmp 46)⟩,
    ⟨some 48, none, .mov (.tmp 1)⟩,
    ⟨some 49, none, .bin .neq (.tmp 47) (.tmp 48)⟩]) (.cond (.tmp 49) (.seq (.reg [
    ⟨some 4, none, .mov (.const (.int .i64 (-1)))⟩]) (.ret)) (.skip))) (.seq (.reg [
    ⟨some 50, none, .mov (.tmp 1)⟩,
    ⟨some 51, none, .bin .add (.tmp 50) (.const (.int .i64 1))⟩,
    ⟨some 1, none, .mov (.tmp 51)⟩]) (.seq (.seq (.reg [
    ⟨some 52, none, .mov (.tmp 0)⟩,
    ⟨some 53, none, .mov (.tmp 5)⟩,
    ⟨some 54, none, .iaddr 6 (.tmp 52) (.tmp 53)⟩,
    ⟨some 55, none, .faddr 3 (.tmp 54)⟩,
    ⟨some 56, none, .faddr 1 (.tmp 55)⟩,
    ⟨some 57, none, .load true 1 (.tmp 56)⟩,
    ⟨some 58, none, .mov (.tmp 1)⟩,
    ⟨some 59, none, .bin .neq (.tmp 57) (.tmp 58)⟩]) (.cond (.tmp 59) (.seq (.reg [
    ⟨some 4, none, .mov (.const (.int .i64 (-1)))⟩]) (.ret)) (.skip))) (.seq (.reg [
    ⟨some 60, none, .mov (.tmp 1)⟩,
    ⟨some 61, none, .bin .add (.tmp 60) (.const (.int .i64 1))⟩,
    ⟨some 1, none, .mov (.tmp 61)⟩]) (.seq (.seq (.reg [
    ⟨some 62, none, .mov (.tmp 0)⟩,
    ⟨some 63, none, .mov (.tmp 5)⟩,
    ⟨some 64, none, .iaddr 6 (.tmp 62) (.tmp 63)⟩,
    ⟨some 65, none, .faddr 3 (.tmp 64)⟩,
    ⟨some 66, none, .faddr 2 (.tmp 65)⟩,
    ⟨some 67, none, .load true 1 (.tmp 66)⟩,
    ⟨some 68, none, .mov (.tmp 1)⟩,
    ⟨some 69, none, .bin .neq (.tmp 67) (.tmp 68)⟩]) (.cond (.tmp 69) (.seq (.reg [
    ⟨some 4, none, .mov (.const (.int .i64 (-1)))⟩]) (.ret)) (.skip))) (.reg [
    ⟨some 70, none, .mov (.tmp 1)⟩,
    ⟨some 71, none, .bin .add (.tmp 70) (.const (.int .i64 1))⟩,
    ⟨some 1, none, .mov (.tmp 71)⟩]))))))))))))) (.reg [
    ⟨some 10, none, .mov (.tmp 5)⟩,
    ⟨some 11, none, .bin .add (.tmp 10) (.const (.int .i64 1))⟩,
    ⟨some 5, none, .mov (.tmp 11)⟩])))))) (.seq (.reg [
    ⟨some 72, none, .mov (.tmp 1)⟩,
    ⟨some 4, none, .mov (.tmp 72)⟩]) (.ret)))
theorem t132 : Try.f132.body.bind (trC e132) = some c132 := by kernel_rfl
theorem r132 : Try.f132.results.toList.mapM (trR Try.prog) = some [.tmp 4] := by kernel_rfl
theorem fn132 {args : List Value} {M : Mem} {post : Value → Mem → Prop} (hl : args.length ≤ 73) (h : VC e132 c132 (fnQ [.tmp 4] post) (initS args 73) M) : Fn Try.prog 132 args M post :=
  Fn.of' (E := e132) Try.func132 t132 rfl r132 mixed hl h
/-! laws.markCellS -/
noncomputable def e76 : Env := ⟨Try.prog, [], 69, []⟩
noncomputable def c76 : C :=
  .seq (.reg [
    ⟨some 4, none, .mov (.const (.int .i64 0))⟩]) (.seq (.seq (.reg [
    ⟨some 5, none, .mov (.const (.int .i64 0))⟩]) (.block 0 (.loop (.seq (.seq (.reg [
    ⟨some 6, none, .mov (.tmp 5)⟩,
    ⟨some 7, none, .mov (.tmp 0)⟩,
    ⟨some 8, none, .lenS (.tmp 7)⟩,
    ⟨some 9, none, .bin .lss (.tmp 6) (.tmp 8)⟩]) (.cond (.tmp 9) (.skip) (.exit 0))) (.seq (.block 1 (.seq (.reg [
    ⟨some 12, none, .mov (.tmp 0)⟩,
    ⟨some 13, none, .mov (.tmp 5)⟩,
    ⟨some 14, none, .mov (.tmp 1)⟩,
    ⟨some 15, none, .iaddr 8 (.tmp 12) (.tmp 13)⟩,
    ⟨some 16, none, .faddr 0 (.tmp 15)⟩,
    ⟨none, none, .store 1 (.tmp 16) (.tmp 14)⟩]) (.seq (.reg [
    ⟨some 17, none, .mov (.tmp 1)⟩,
    ⟨some 18, none, .bin .add (.tmp 17) (.const (.int .i64 1))⟩,
    ⟨some 1, none, .mov (.tmp 18)⟩]) (.seq (.reg [
    ⟨some 19, none, .mov (.tmp 0)⟩,
    ⟨some 20, none, .mov (.tmp 5)⟩,
    ⟨some 21, none, .mov (.tmp 1)⟩,
    ⟨some 22, none, .iaddr 8 (.tmp 19) (.tmp 20)⟩,
    ⟨some 23, none, .faddr 1 (.tmp 22)⟩,
    ⟨none, none, .store 1 (.tmp 23) (.tmp 21)⟩]) (.seq (.reg [
    ⟨some 24, none, .mov (.tmp 1)⟩,
    ⟨some 25, none, .bin .add (.tmp 24) (.const (.int .i64 1))⟩,
    ⟨some 1, none, .mov (.tmp 25)⟩]) (.seq (.reg [
    ⟨some 26, none, .mov (.tmp 0)⟩,
    ⟨some 27, none, .mov (.tmp 5)⟩,
    ⟨some 28, none, .mov (.tmp 1)⟩,
    ⟨some 29, none, .iaddr 8 (.tmp 26) (.tmp 27)⟩,
    ⟨some 30, none, .faddr 2 (.tmp 29)⟩,
    ⟨none, none, .store 1 (.tmp 30) (.tmp 28)⟩]) (.seq (.reg [
    ⟨some 31, none, .mov (.tmp 1)⟩,
    ⟨some 32, none, .bin .add (.tmp 31) (.const (.int .i64 1))⟩,
    ⟨some 1, none, .mov (.tmp 32)⟩]) (.seq (.reg [
    ⟨some 33, none, .mov (.tmp 0)⟩,
    ⟨some 34, none, .mov (.tmp 5)⟩,
    ⟨some 35, none, .mov (.tmp 1)⟩,
    ⟨some 36, none, .iaddr 8 (.tmp 33) (.tmp 34)⟩,
    ⟨some 37, none, .faddr 3 (.tmp 36)⟩,
    ⟨none, none, .store 1 (.tmp 37) (.tmp 35)⟩]) (.seq (.reg [
    ⟨some 38, none, .mov (.tmp 1)⟩,
    ⟨some 39, none, .bin .add (.tmp 38) (.const (.int .i64 1))⟩,
    ⟨some 1, none, .mov (.tmp 39)⟩]) (.seq (.reg [
    ⟨some 40, none, .mov (.tmp 0)⟩,
    ⟨some 41, none, .mov (.tmp 5)⟩,
    ⟨some 42, none, .mov (.tmp 1)⟩,
    ⟨some 43, none, .iaddr 8 (.tmp 40) (.tmp 41)⟩,
    ⟨some 44, none, .faddr 4 (.tmp 43)⟩,
    ⟨none, none, .store 1 (.tmp 44) (.tmp 42)⟩]) (.seq (.reg [
    ⟨some 45, none, .mov (.tmp 1)⟩,
    ⟨some 46, none, .bin .add (.tmp 45) (.const (.int .i64 1))⟩,
    ⟨some 1, none, .mov (.tmp 46)⟩]) (.seq (.reg [
    ⟨some 47, none, .mov (.tmp 0)⟩,
    ⟨some 48, none, .mov (.tmp 5)⟩,
    ⟨some 49, none, .mov (.tmp 1)⟩,
    ⟨some 50, none, .iaddr 8 (.tmp 47) (.tmp 48)⟩,
    ⟨some 51, none, .faddr 5 (.tmp 50)⟩,
    ⟨none, none, .store 1 (.tmp 51) (.tmp 49)⟩]) (.seq (.reg [
    ⟨some 52, none, .mov (.tmp 1)⟩,
    ⟨some 53, none, .bin .add (.tmp 52) (.const (.int .i64 1))⟩,
    ⟨some 1, none, .mov (.tmp 53)⟩]) (.seq (.reg [
    ⟨some 54, none, .mov (.tmp 0)⟩,
    ⟨some 55, none, .mov (.tmp 5)⟩,
    ⟨some 56, none, .mov (.tmp 1)⟩,
    ⟨some 57, none, .iaddr 8 (.tmp 54) (.tmp 55)⟩,
    ⟨some 58, none, .faddr 6 (.tmp 57)⟩,
    ⟨none, none, .store 1 (.tmp 58) (.tmp 56)⟩]) (.seq (.reg [
    ⟨some 59, none, .mov (.tmp 1)⟩,
    ⟨some 60, none, .bin .add (.tmp 59) (.const (.int .i64 1))⟩,
    ⟨some 1, none, .mov (.tmp 60)⟩]) (.reg [
    ⟨some 61, none, .mov (.tmp 0)⟩,
    ⟨some 62, none, .mov (.tmp 5)⟩,
    ⟨some 63, none, .iaddr 8 (.tmp 61) (.tmp 62)⟩,
    ⟨some 64, none, .faddr 7 (.tmp 63)⟩,
    ⟨some 65, none, .load true 1 (.tmp 64)⟩,
    ⟨some 66, none, .mov (.tmp 1)⟩,
    ⟨some 67, none, .call 131 [.tmp 65, .tmp 66]⟩,
    ⟨some 1, none, .mov (.tmp 67)⟩])))))))))))))))) (.reg [
    ⟨some 10, none, .mov (.tmp 5)⟩,
    ⟨some 11, none, .bin .add (.tmp 10) (.const (.int .i64 1))⟩,
    ⟨some 5, none, .mov (.tmp 11)⟩])))))) (.seq (.reg [
    ⟨some 68, none, .mov (.tmp 1)⟩,
    ⟨some 4, none, .mov (.tmp 68)⟩]) (.ret)))
theorem t76 : Try.f76.body.bind (trC e76) = some c76 := by kernel_rfl
theorem r76 : Try.f76.results.toList.mapM (trR Try.prog) = some [.tmp 4] := by kernel_rfl
theorem fn76 {args : List Value} {M : Mem} {post : Value → Mem → Prop} (hl : args.length ≤ 69) (h : VC e76 c76 (fnQ [.tmp 4] post) (initS args 69) M) : Fn Try.prog 76 args M post :=
  Fn.of' (E := e76) Try.func76 t76 rfl r76 mixed hl h
/-! laws.heldCellS -/
noncomputable def e79 : Env := ⟨Try.prog, [], 85, []⟩
noncomputable def c79 : C :=
  .seq (.reg [
    ⟨some 4, none, .mov (.const (.int .i64 0))⟩]) (.seq (.seq (.reg [
    ⟨some 5, none, .mov (.const (.int .i64 0))⟩]) (.block 0 (.loop (.seq (.seq (.reg [
    ⟨some 6, none, .mov (.tmp 5)⟩,
    ⟨some 7, none, .mov (.tmp 0)⟩,
    ⟨some 8, none, .lenS (.tmp 7)⟩,
    ⟨some 9, none, .bin .lss (.tmp 6) (.tmp 8)⟩]) (.cond (.tmp 9) (.skip) (.exit 0))) (.seq (.block 1 (.seq (.seq (.reg [
    ⟨some 12, none, .mov (.tmp 0)⟩,
    ⟨some 13, none, .mov (.tmp 5)⟩,
    ⟨some 14, none, .iaddr 8 (.tmp 12) (.tmp 13)⟩,
    ⟨some 15, none, .faddr 0 (.tmp 14)⟩,
    ⟨some 16, none, .load true 1 (.tmp 15)⟩,
    ⟨some 17, none, .mov (.tmp 1)⟩,
    ⟨some 18, none, .bin .neq (.tmp 16) (.tmp 17)⟩]) (.cond (.tmp 18) (.seq (.reg [
    ⟨some 4, none, .mov (.const (.int .i64 (-1)))⟩]) (.ret)) (.skip))) (.seq (.reg [
    ⟨some 19, none, .mov (.tmp 1)⟩,
    ⟨some 20, none, .bin .add (.tmp 19) (.const (.int .i64 1))⟩,
    ⟨some 1, none, .mov (.tmp 20)⟩]) (.seq (.seq (.reg [
    ⟨some 21, none, .mov (.tmp 0)⟩,
    ⟨some 22, none, .mov (.tmp 5)⟩,
    ⟨some 23, none, .iaddr 8 (.tmp 21) (.tmp 22)⟩,
    ⟨some 24, none, .faddr 1 (.tmp 23)⟩,
    ⟨some 25, none, .load true 1 (.tmp 24)⟩,
    ⟨some 26, none, .mov (.tmp 1)⟩,
    ⟨some 27, none, .bin .neq (.tmp 25) (.tmp 26)⟩]) (.cond (.tmp 27) (.seq (.reg [
    ⟨some 4, none, .mov (.const (.int .i64 (-1)))⟩]) (.ret)) (.skip))) (.seq (.reg [
    ⟨some 28, none, .mov (.tmp 1)⟩,
    ⟨some 29, none, .bin .add (.tmp 28) (.const (.int .i64 1))⟩,
    ⟨some 1, none, .mov (.tmp 29)⟩]) (.seq (.seq (.reg [
    ⟨some 30, none, .mov (.tmp 0)⟩,
    ⟨some 31, none, .mov (.tmp 5)⟩,
    ⟨some 32, none, .iaddr 8 (.tmp 30) (.tmp 31)⟩,
    ⟨some 33, none, .faddr 2 (.tmp 32)⟩,
    ⟨some 34, none, .load true 1 (.tmp 33)⟩,
    ⟨some 35, none, .mov (.tmp 1)⟩,
    ⟨some 36, none, .bin .neq (.tmp 34) (.tmp 35)⟩]) (.cond (.tmp 36) (.seq (.reg [
    ⟨some 4, none, .mov (.const (.int .i64 (-1)))⟩]) (.ret)) (.skip))) (.seq (.reg [
    ⟨some 37, none, .mov (.tmp 1)⟩,
    ⟨some 38, none, .bin .add (.tmp 37) (.const (.int .i64 1))⟩,
    ⟨some 1, none, .mov (.tmp 38)⟩]) (.seq (.seq (.reg [
    ⟨some 39, none, .mov (.tmp 0)⟩,
    ⟨some 40, none, .mov (.tmp 5)⟩,
    ⟨some 41, none, .iaddr 8 (.tmp 39) (.tmp 40)⟩,
    ⟨some 42, none, .faddr 3 (.tmp 41)⟩,
    ⟨some 43, none, .load true 1 (.tmp 42)⟩,
    ⟨some 44, none, .mov (.tmp 1)⟩,
    ⟨some 45, none, .bin .neq (.tmp 43) (.tmp 44)⟩]) (.cond (.tmp 45) (.seq (.reg [
    ⟨some 4, none, .mov (.const (.int .i64 (-1)))⟩]) (.ret)) (.skip))) (.seq (.reg [
    ⟨some 46, none, .mov (.tmp 1)⟩,
    ⟨some 47, none, .bin .add (.tmp 46) (.const (.int .i64 1))⟩,
    ⟨some 1, none, .mov (.tmp 47)⟩]) (.seq (.seq (.reg [
    ⟨some 48, none, .mov (.tmp 0)⟩,
    ⟨some 49, none, .mov (.tmp 5)⟩,
    ⟨some 50, none, .iaddr 8 (.tmp 48) (.tmp 49)⟩,
    ⟨some 51, none, .faddr 4 (.tmp 50)⟩,
    ⟨some 52, none, .load true 1 (.tmp 51)⟩,
    ⟨some 53, none, .mov (.tmp 1)⟩,
    ⟨some 54, none, .bin .neq (.tmp 52) (.tmp 53)⟩]) (.cond (.tmp 54) (.seq (.reg [
    ⟨some 4, none, .mov (.const (.int .i64 (-1)))⟩]) (.ret)) (.skip))) (.seq (.reg [
    ⟨some 55, none, .mov (.tmp 1)⟩,
    ⟨some 56, none, .bin .add (.tmp 55) (.const (.int .i64 1))⟩,
    ⟨some 1, none, .mov (.tmp 56)⟩]) (.seq (.seq (.reg [
    ⟨some 57, none, .mov (.tmp 0)⟩,
    ⟨some 58, none, .mov (.tmp 5)⟩,
    ⟨some 59, none, .iaddr 8 (.tmp 57) (.tmp 58)⟩,
    ⟨some 60, none, .faddr 5 (.tmp 59)⟩,
    ⟨some 61, none, .load true 1 (.tmp 60)⟩,
    ⟨some 62, none, .mov (.tmp 1)⟩,
    ⟨some 63, none, .bin .neq (.tmp 61) (.tmp 62)⟩]) (.cond (.tmp 63) (.seq (.reg [
    ⟨some 4, none, .mov (.const (.int .i64 (-1)))⟩]) (.ret)) (.skip))) (.seq (.reg [
    ⟨some 64, none, .mov (.tmp 1)⟩,
    ⟨some 65, none, .bin .add (.tmp 64) (.const (.int .i64 1))⟩,
    ⟨some 1, none, .mov (.tmp 65)⟩]) (.seq (.seq (.reg [
    ⟨some 66, none, .mov (.tmp 0)⟩,
    ⟨some 67, none, .mov (.tmp 5)⟩,
    ⟨some 68, none, .iaddr 8 (.tmp 66) (.tmp 67)⟩,
    ⟨some 69, none, .faddr 6 (.tmp 68)⟩,
    ⟨some 70, none, .load true 1 (.tmp 69)⟩,
    ⟨some 71, none, .mov (.tmp 1)⟩,
    ⟨some 72, none, .bin .neq (.tmp 70) (.tmp 71)⟩]) (.cond (.tmp 72) (.seq (.reg [
    ⟨some 4, none, .mov (.const (.int .i64 (-1)))⟩]) (.ret)) (.skip))) (.seq (.reg [
    ⟨some 73, none, .mov (.tmp 1)⟩,
    ⟨some 74, none, .bin .add (.tmp 73) (.const (.int .i64 1))⟩,
    ⟨some 1, none, .mov (.tmp 74)⟩]) (.seq (.reg [
    ⟨some 75, none, .mov (.tmp 0)⟩,
    ⟨some 76, none, .mov (.tmp 5)⟩,
    ⟨some 77, none, .iaddr 8 (.tmp 75) (.tmp 76)⟩,
    ⟨some 78, none, .faddr 7 (.tmp 77)⟩,
    ⟨some 79, none, .load true 1 (.tmp 78)⟩,
    ⟨some 80, none, .mov (.tmp 1)⟩,
    ⟨some 81, none, .call 132 [.tmp 79, .tmp 80]⟩,
    ⟨some 1, none, .mov (.tmp 81)⟩]) (.seq (.reg [
    ⟨some 82, none, .mov (.tmp 1)⟩,
    ⟨some 83, none, .bin .lss (.tmp 82) (.const (.int .i64 0))⟩]) (.cond (.tmp 83) (.seq (.reg [
    ⟨some 4, none, .mov (.const (.int .i64 (-1)))⟩]) (.ret)) (.skip))))))))))))))))))) (.reg [
    ⟨some 10, none, .mov (.tmp 5)⟩,
    ⟨some 11, none, .bin .add (.tmp 10) (.const (.int .i64 1))⟩,
    ⟨some 5, none, .mov (.tmp 11)⟩])))))) (.seq (.reg [
    ⟨some 84, none, .mov (.tmp 1)⟩,
    ⟨some 4, none, .mov (.tmp 84)⟩]) (.ret)))
theorem t79 : Try.f79.body.bind (trC e79) = some c79 := by kernel_rfl
theorem r79 : Try.f79.results.toList.mapM (trR Try.prog) = some [.tmp 4] := by kernel_rfl
theorem fn79 {args : List Value} {M : Mem} {post : Value → Mem → Prop} (hl : args.length ≤ 85) (h : VC e79 c79 (fnQ [.tmp 4] post) (initS args 85) M) : Fn Try.prog 79 args M post :=
  Fn.of' (E := e79) Try.func79 t79 rfl r79 mixed hl h
/-! laws.markIntS -/
noncomputable def e77 : Env := ⟨Try.prog, [], 19, []⟩
noncomputable def c77 : C :=
  .seq (.reg [
    ⟨some 4, none, .mov (.const (.int .i64 0))⟩]) (.seq (.seq (.reg [
    ⟨some 5, none, .mov (.const (.int .i64 0))⟩]) (.block 0 (.loop (.seq (.seq (.reg [
    ⟨some 6, none, .mov (.tmp 5)⟩,
    ⟨some 7, none, .mov (.tmp 0)⟩,
    ⟨some 8, none, .lenS (.tmp 7)⟩,
    ⟨some 9, none, .bin .lss (.tmp 6) (.tmp 8)⟩]) (.cond (.tmp 9) (.skip) (.exit 0))) (.seq (.block 1 (.seq (.reg [
    ⟨some 12, none, .mov (.tmp 0)⟩,
    ⟨some 13, none, .mov (.tmp 5)⟩,
    ⟨some 14, none, .mov (.tmp 1)⟩,
    ⟨some 15, none, .iaddr 1 (.tmp 12) (.tmp 13)⟩,
    ⟨none, none, .store 1 (.tmp 15) (.tmp 14)⟩]) (.reg [
    ⟨some 16, none, .mov (.tmp 1)⟩,
    ⟨some 17, none, .bin .add (.tmp 16) (.const (.int .i64 1))⟩,
    ⟨some 1, none, .mov (.tmp 17)⟩]))) (.reg [
    ⟨some 10, none, .mov (.tmp 5)⟩,
    ⟨some 11, none, .bin .add (.tmp 10) (.const (.int .i64 1))⟩,
    ⟨some 5, none, .mov (.tmp 11)⟩])))))) (.seq (.reg [
    ⟨some 18, none, .mov (.tmp 1)⟩,
    ⟨some 4, none, .mov (.tmp 18)⟩]) (.ret)))
theorem t77 : Try.f77.body.bind (trC e77) = some c77 := by kernel_rfl
theorem r77 : Try.f77.results.toList.mapM (trR Try.prog) = some [.tmp 4] := by kernel_rfl
theorem fn77 {args : List Value} {M : Mem} {post : Value → Mem → Prop} (hl : args.length ≤ 19) (h : VC e77 c77 (fnQ [.tmp 4] post) (initS args 19) M) : Fn Try.prog 77 args M post :=
  Fn.of' (E := e77) Try.func77 t77 rfl r77 mixed hl h
/-! laws.heldIntS -/
noncomputable def e80 : Env := ⟨Try.prog, [], 21, []⟩
noncomputable def c80 : C :=
  .seq (.reg [
    ⟨some 4, none, .mov (.const (.int .i64 0))⟩]) (.seq (.seq (.reg [
    ⟨some 5, none, .mov (.const (.int .i64 0))⟩]) (.block 0 (.loop (.seq (.seq (.reg [
    ⟨some 6, none, .mov (.tmp 5)⟩,
    ⟨some 7, none, .mov (.tmp 0)⟩,
    ⟨some 8, none, .lenS (.tmp 7)⟩,
    ⟨some 9, none, .bin .lss (.tmp 6) (.tmp 8)⟩]) (.cond (.tmp 9) (.skip) (.exit 0))) (.seq (.block 1 (.seq (.seq (.reg [
    ⟨some 12, none, .mov (.tmp 0)⟩,
    ⟨some 13, none, .mov (.tmp 5)⟩,
    ⟨some 14, none, .iaddr 1 (.tmp 12) (.tmp 13)⟩,
    ⟨some 15, none, .load true 1 (.tmp 14)⟩,
    ⟨some 16, none, .mov (.tmp 1)⟩,
    ⟨some 17, none, .bin .neq (.tmp 15) (.tmp 16)⟩]) (.cond (.tmp 17) (.seq (.reg [
    ⟨some 4, none, .mov (.const (.int .i64 (-1)))⟩]) (.ret)) (.skip))) (.reg [
    ⟨some 18, none, .mov (.tmp 1)⟩,
    ⟨some 19, none, .bin .add (.tmp 18) (.const (.int .i64 1))⟩,
    ⟨some 1, none, .mov (.tmp 19)⟩]))) (.reg [
    ⟨some 10, none, .mov (.tmp 5)⟩,
    ⟨some 11, none, .bin .add (.tmp 10) (.const (.int .i64 1))⟩,
    ⟨some 5, none, .mov (.tmp 11)⟩])))))) (.seq (.reg [
    ⟨some 20, none, .mov (.tmp 1)⟩,
    ⟨some 4, none, .mov (.tmp 20)⟩]) (.ret)))
theorem t80 : Try.f80.body.bind (trC e80) = some c80 := by kernel_rfl
theorem r80 : Try.f80.results.toList.mapM (trR Try.prog) = some [.tmp 4] := by kernel_rfl
theorem fn80 {args : List Value} {M : Mem} {post : Value → Mem → Prop} (hl : args.length ≤ 21) (h : VC e80 c80 (fnQ [.tmp 4] post) (initS args 21) M) : Fn Try.prog 80 args M post :=
  Fn.of' (E := e80) Try.func80 t80 rfl r80 mixed hl h
/-! laws.markHeap -/
noncomputable def e28 : Env := ⟨Try.prog, [2], 18, []⟩
noncomputable def c28 : C :=
  .seq (.reg [
    ⟨some 2, none, .box true (.tmp 0)⟩,
    ⟨some 4, none, .mov (.const (.int .i64 0))⟩]) (.seq (.reg [
    ⟨some 5, none, .faddr 3 (.tmp 2)⟩,
    ⟨some 6, none, .load true 1 (.tmp 5)⟩,
    ⟨some 7, none, .mov (.tmp 1)⟩,
    ⟨some 8, none, .call 75 [.tmp 6, .tmp 7]⟩,
    ⟨some 1, none, .mov (.tmp 8)⟩]) (.seq (.reg [
    ⟨some 9, none, .faddr 4 (.tmp 2)⟩,
    ⟨some 10, none, .load true 1 (.tmp 9)⟩,
    ⟨some 11, none, .mov (.tmp 1)⟩,
    ⟨some 12, none, .call 76 [.tmp 10, .tmp 11]⟩,
    ⟨some 1, none, .mov (.tmp 12)⟩]) (.seq (.reg [
    ⟨some 13, none, .faddr 8 (.tmp 2)⟩,
    ⟨some 14, none, .load true 1 (.tmp 13)⟩,
    ⟨some 15, none, .mov (.tmp 1)⟩,
    ⟨some 16, none, .call 77 [.tmp 14, .tmp 15]⟩,
    ⟨some 1, none, .mov (.tmp 16)⟩]) (.seq (.reg [
    ⟨some 17, none, .mov (.tmp 1)⟩,
    ⟨some 4, none, .mov (.tmp 17)⟩]) (.ret)))))
theorem t28 : Try.f28.body.bind (trC e28) = some c28 := by kernel_rfl
theorem r28 : Try.f28.results.toList.mapM (trR Try.prog) = some [.tmp 4] := by kernel_rfl
theorem fn28 {args : List Value} {M : Mem} {post : Value → Mem → Prop} (hl : args.length ≤ 18) (h : VC e28 c28 (fnQ [.tmp 4] post) (initS args 18) M) : Fn Try.prog 28 args M post :=
  Fn.of' (E := e28) Try.func28 t28 rfl r28 mixed hl h
/-! laws.heldHeap -/
noncomputable def e29 : Env := ⟨Try.prog, [2], 24, []⟩
noncomputable def c29 : C :=
  .seq (.reg [
    ⟨some 2, none, .box true (.tmp 0)⟩,
    ⟨some 4, none, .mov (.const (.int .i64 0))⟩]) (.seq (.reg [
    ⟨some 5, none, .faddr 3 (.tmp 2)⟩,
    ⟨some 6, none, .load true 1 (.tmp 5)⟩,
    ⟨some 7, none, .mov (.tmp 1)⟩,
    ⟨some 8, none, .call 78 [.tmp 6, .tmp 7]⟩,
    ⟨some 1, none, .mov (.tmp 8)⟩]) (.seq (.seq (.reg [
    ⟨some 9, none, .mov (.tmp 1)⟩,
    ⟨some 10, none, .bin .lss (.tmp 9) (.const (.int .i64 0))⟩]) (.cond (.tmp 10) (.seq (.reg [
    ⟨some 4, none, .mov (.const (.int .i64 (-1)))⟩]) (.ret)) (.skip))) (.seq (.reg [
    ⟨some 11, none, .faddr 4 (.tmp 2)⟩,
    ⟨some 12, none, .load true 1 (.tmp 11)⟩,
    ⟨some 13, none, .mov (.tmp 1)⟩,
    ⟨some 14, none, .call 79 [.tmp 12, .tmp 13]⟩,
    ⟨some 1, none, .mov (.tmp 14)⟩]) (.seq (.seq (.reg [
    ⟨some 15, none, .mov (.tmp 1)⟩,
    ⟨some 16, none, .bin .lss (.tmp 15) (.const (.int .i64 0))⟩]) (.cond (.tmp 16) (.seq (.reg [
    ⟨some 4, none, .mov (.const (.int .i64 (-1)))⟩]) (.ret)) (.skip))) (.seq (.reg [
    ⟨some 17, none, .faddr 8 (.tmp 2)⟩,
    ⟨some 18, none, .load true 1 (.tmp 17)⟩,
    ⟨some 19, none, .mov (.tmp 1)⟩,
    ⟨some 20, none, .call 80 [.tmp 18, .tmp 19]⟩,
    ⟨some 1, none, .mov (.tmp 20)⟩]) (.seq (.seq (.reg [
    ⟨some 21, none, .mov (.tmp 1)⟩,
    ⟨some 22, none, .bin .lss (.tmp 21) (.const (.int .i64 0))⟩]) (.cond (.tmp 22) (.seq (.reg [
    ⟨some 4, none, .mov (.const (.int .i64 (-1)))⟩]) (.ret)) (.skip))) (.seq (.reg [
    ⟨some 23, none, .mov (.tmp 1)⟩,
    ⟨some 4, none, .mov (.tmp 23)⟩]) (.ret))))))))
theorem t29 : Try.f29.body.bind (trC e29) = some c29 := by kernel_rfl
theorem r29 : Try.f29.results.toList.mapM (trR Try.prog) = some [.tmp 4] := by kernel_rfl
theorem fn29 {args : List Value} {M : Mem} {post : Value → Mem → Prop} (hl : args.length ≤ 24) (h : VC e29 c29 (fnQ [.tmp 4] post) (initS args 24) M) : Fn Try.prog 29 args M post :=
  Fn.of' (E := e29) Try.func29 t29 rfl r29 mixed hl h
/-! laws.markBoolS -/
noncomputable def e47 : Env := ⟨Try.prog, [], 21, []⟩
noncomputable def c47 : C :=
  .seq (.reg [
    ⟨some 4, none, .mov (.const (.int .i64 0))⟩]) (.seq (.seq (.reg [
    ⟨some 5, none, .mov (.const (.int .i64 0))⟩]) (.block 0 (.loop (.seq (.seq (.reg [
    ⟨some 6, none, .mov (.tmp 5)⟩,
    ⟨some 7, none, .mov (.tmp 0)⟩,
    ⟨some 8, none, .lenS (.tmp 7)⟩,
    ⟨some 9, none, .bin .lss (.tmp 6) (.tmp 8)⟩]) (.cond (.tmp 9) (.skip) (.exit 0))) (.seq (.block 1 (.seq (.reg [
    ⟨some 12, none, .mov (.tmp 0)⟩,
    ⟨some 13, none, .mov (.tmp 5)⟩,
    ⟨some 14, none, .mov (.tmp 1)⟩,
    ⟨some 15, none, .bin .rem (.tmp 14) (.const (.int .i64 3))⟩,
    ⟨some 16, none, .bin .eql (.tmp 15) (.const (.int .i64 0))⟩,
    ⟨some 17, none, .iaddr 1 (.tmp 12) (.tmp 13)⟩,
    ⟨none, none, .store 1 (.tmp 17) (.tmp 16)⟩]) (.reg [
    ⟨some 18, none, .mov (.tmp 1)⟩,
    ⟨some 19, none, .bin .add (.tmp 18) (.const (.int .i64 1))⟩,
    ⟨some 1, none, .mov (.tmp 19)⟩]))) (.reg [
    ⟨some 10, none, .mov (.tmp 5)⟩,
    ⟨some 11, none, .bin .add (.tmp 10) (.const (.int .i64 1))⟩,
    ⟨some 5, none, .mov (.tmp 11)⟩])))))) (.seq (.reg [
    ⟨some 20, none, .mov (.tmp 1)⟩,
    ⟨some 4, none, .mov (.tmp 20)⟩]) (.ret)))
theorem t47 : Try.f47.body.bind (trC e47) = some c47 := by kernel_rfl
theorem r47 : Try.f47.results.toList.mapM (trR Try.prog) = some [.tmp 4] := by kernel_rfl
theorem fn47 {args : List Value} {M : Mem} {post : Value → Mem → Prop} (hl : args.length ≤ 21) (h : VC e47 c47 (fnQ [.tmp 4] post) (initS args 21) M) : Fn Try.prog 47 args M post :=
  Fn.of' (E := e47) Try.func47 t47 rfl r47 mixed hl h
/-! laws.heldBoolS -/
noncomputable def e48 : Env := ⟨Try.prog, [], 23, []⟩
noncomputable def c48 : C :=
  .seq (.reg [
    ⟨some 4, none, .mov (.const (.int .i64 0))⟩]) (.seq (.seq (.reg [
    ⟨some 5, none, .mov (.const (.int .i64 0))⟩]) (.block 0 (.loop (.seq (.seq (.reg [
    ⟨some 6, none, .mov (.tmp 5)⟩,
    ⟨some 7, none, .mov (.tmp 0)⟩,
    ⟨some 8, none, .lenS (.tmp 7)⟩,
    ⟨some 9, none, .bin .lss (.tmp 6) (.tmp 8)⟩]) (.cond (.tmp 9) (.skip) (.exit 0))) (.seq (.block 1 (.seq (.seq (.reg [
    ⟨some 12, none, .mov (.tmp 0)⟩,
    ⟨some 13, none, .mov (.tmp 5)⟩,
    ⟨some 14, none, .iaddr 1 (.tmp 12) (.tmp 13)⟩,
    ⟨some 15, none, .load true 1 (.tmp 14)⟩,
    ⟨some 16, none, .mov (.tmp 1)⟩,
    ⟨some 17, none, .bin .rem (.tmp 16) (.const (.int .i64 3))⟩,
    ⟨some 18, none, .bin .eql (.tmp 17) (.const (.int .i64 0))⟩,
    ⟨some 19, none, .eqB true (.tmp 15) (.tmp 18)⟩]) (.cond (.tmp 19) (.seq (.reg [
    ⟨some 4, none, .mov (.const (.int .i64 (-1)))⟩]) (.ret)) (.skip))) (.reg [
    ⟨some 20, none, .mov (.tmp 1)⟩,
    ⟨some 21, none, .bin .add (.tmp 20) (.const (.int .i64 1))⟩,
    ⟨some 1, none, .mov (.tmp 21)⟩]))) (.reg [
    ⟨some 10, none, .mov (.tmp 5)⟩,
    ⟨some 11, none, .bin .add (.tmp 10) (.const (.int .i64 1))⟩,
    ⟨some 5, none, .mov (.tmp 11)⟩])))))) (.seq (.reg [
    ⟨some 22, none, .mov (.tmp 1)⟩,
    ⟨some 4, none, .mov (.tmp 22)⟩]) (.ret)))
theorem t48 : Try.f48.body.bind (trC e48) = some c48 := by kernel_rfl
theorem r48 : Try.f48.results.toList.mapM (trR Try.prog) = some [.tmp 4] := by kernel_rfl
theorem fn48 {args : List Value} {M : Mem} {post : Value → Mem → Prop} (hl : args.length ≤ 23) (h : VC e48 c48 (fnQ [.tmp 4] post) (initS args 23) M) : Fn Try.prog 48 args M post :=
  Fn.of' (E := e48) Try.func48 t48 rfl r48 mixed hl h
/-! laws.szActS -/
noncomputable def e18 : Env := ⟨Try.prog, [], 12, []⟩
noncomputable def c18 : C :=
  .seq (.reg [
    ⟨some 4, none, .mov (.const (.int .i64 0))⟩]) (.seq (.reg [
    ⟨some 5, none, .mov (.tmp 1)⟩,
    ⟨some 6, none, .mov (.tmp 0)⟩,
    ⟨some 7, none, .lenS (.tmp 6)⟩,
    ⟨some 8, none, .bin .sub (.tmp 5) (.tmp 7)⟩,
    ⟨some 1, none, .mov (.tmp 8)⟩]) (.seq (.seq (.reg [
    ⟨some 9, none, .mov (.tmp 1)⟩,
    ⟨some 10, none, .bin .lss (.tmp 9) (.const (.int .i64 0))⟩]) (.cond (.tmp 10) (.seq (.reg [
    ⟨some 4, none, .mov (.const (.int .i64 (-1)))⟩]) (.ret)) (.skip))) (.seq (.reg [
    ⟨some 11, none, .mov (.tmp 1)⟩,
    ⟨some 4, none, .mov (.tmp 11)⟩]) (.ret))))
theorem t18 : Try.f18.body.bind (trC e18) = some c18 := by kernel_rfl
theorem r18 : Try.f18.results.toList.mapM (trR Try.prog) = some [.tmp 4] := by kernel_rfl
theorem fn18 {args : List Value} {M : Mem} {post : Value → Mem → Prop} (hl : args.length ≤ 12) (h : VC e18 c18 (fnQ [.tmp 4] post) (initS args 12) M) : Fn Try.prog 18 args M post :=
  Fn.of' (E := e18) Try.func18 t18 rfl r18 mixed hl h
/-! laws.toAct -/
noncomputable def e67 : Env := ⟨Try.prog, [1, 2, 3], 20, []⟩
noncomputable def c67 : C :=
  .seq (.reg [
    ⟨some 1, none, .box true (.tmp 0)⟩,
    ⟨some 2, none, .alloc true [.int .i64 0, .int .i64 0, .int .i64 0, .int .i64 0, .int .i64 0]⟩]) (.seq (.reg [
    ⟨some 3, none, .alloc true [.int .i64 0, .int .i64 0, .int .i64 0, .int .i64 0, .int .i64 0]⟩]) (.seq (.reg [
    ⟨some 4, none, .faddr 0 (.tmp 1)⟩,
    ⟨some 5, none, .load true 1 (.tmp 4)⟩,
    ⟨some 6, none, .faddr 0 (.tmp 3)⟩,
    ⟨none, none, .store 1 (.tmp 6) (.tmp 5)⟩]) (.seq (.reg [
    ⟨some 7, none, .faddr 1 (.tmp 1)⟩,
    ⟨some 8, none, .load true 1 (.tmp 7)⟩,
    ⟨some 9, none, .faddr 1 (.tmp 3)⟩,
    ⟨none, none, .store 1 (.tmp 9) (.tmp 8)⟩]) (.seq (.reg [
    ⟨some 10, none, .faddr 2 (.tmp 1)⟩,
    ⟨some 11, none, .load true 1 (.tmp 10)⟩,
    ⟨some 12, none, .faddr 2 (.tmp 3)⟩,
    ⟨none, none, .store 1 (.tmp 12) (.tmp 11)⟩]) (.seq (.reg [
    ⟨some 13, none, .faddr 3 (.tmp 1)⟩,
    ⟨some 14, none, .load true 1 (.tmp 13)⟩,
    ⟨some 15, none, .faddr 3 (.tmp 3)⟩,
    ⟨none, none, .store 1 (.tmp 15) (.tmp 14)⟩]) (.seq (.reg [
    ⟨some 16, none, .faddr 4 (.tmp 1)⟩,
    ⟨some 17, none, .load true 1 (.tmp 16)⟩,
    ⟨some 18, none, .faddr 4 (.tmp 3)⟩,
    ⟨none, none, .store 1 (.tmp 18) (.tmp 17)⟩]) (.seq (.reg [
    ⟨some 19, none, .load false 5 (.tmp 3)⟩,
    ⟨none, none, .store 5 (.tmp 2) (.tmp 19)⟩]) (.ret))))))))
theorem t67 : Try.f67.body.bind (trC e67) = some c67 := by kernel_rfl
theorem r67 : Try.f67.results.toList.mapM (trR Try.prog) = some [.cell 2 false 5] := by kernel_rfl
theorem fn67 {args : List Value} {M : Mem} {post : Value → Mem → Prop} (hl : args.length ≤ 20) (h : VC e67 c67 (fnQ [.cell 2 false 5] post) (initS args 20) M) : Fn Try.prog 67 args M post :=
  Fn.of' (E := e67) Try.func67 t67 rfl r67 mixed hl h
/-! laws.toActS -/
noncomputable def e20 : Env := ⟨Try.prog, [], 23, []⟩
noncomputable def c20 : C :=
  .seq (.reg [
    ⟨some 2, none, .mov (.const (.slice none 0 0))⟩]) (.seq (.reg [
    ⟨some 5, none, .mov (.tmp 0)⟩,
    ⟨some 6, none, .lenS (.tmp 5)⟩,
    ⟨some 7, none, .mkslice 5 40 [.int .i64 0, .int .i64 0, .int .i64 0, .int .i64 0, .int .i64 0] (.tmp 6) (.tmp 6)⟩,
    ⟨some 3, none, .mov (.tmp 7)⟩]) (.seq (.seq (.reg [
    ⟨some 4, none, .mov (.const (.int .i64 0))⟩]) (.block 0 (.loop (.seq (.seq (.reg [
    ⟨some 8, none, .mov (.tmp 4)⟩,
    ⟨some 9, none, .mov (.tmp 0)⟩,
    ⟨some 10, none, .lenS (.tmp 9)⟩,
    ⟨some 11, none, .bin .lss (.tmp 8) (.tmp 10)⟩]) (.cond (.tmp 11) (.skip) (.exit 0))) (.seq (.block 1 (.reg [
    ⟨some 14, none, .mov (.tmp 3)⟩,
    ⟨some 15, none, .mov (.tmp 4)⟩,
    ⟨some 16, none, .mov (.tmp 0)⟩,
    ⟨some 17, none, .mov (.tmp 4)⟩,
    ⟨some 18, none, .iaddr 5 (.tmp 16) (.tmp 17)⟩,
    ⟨some 19, none, .load false 5 (.tmp 18)⟩,
    ⟨some 20, none, .call 67 [.tmp 19]⟩,
    ⟨some 21, none, .iaddr 5 (.tmp 14) (.tmp 15)⟩,
    ⟨none, none, .store 5 (.tmp 21) (.tmp 20)⟩])) (.reg [
    ⟨some 12, none, .mov (.tmp 4)⟩,
    ⟨some 13, none, .bin .add (.tmp 12) (.const (.int .i64 1))⟩,
    ⟨some 4, none, .mov (.tmp 13)⟩])))))) (.seq (.reg [
    ⟨some 22, none, .mov (.tmp 3)⟩,
    ⟨some 2, none, .mov (.tmp 22)⟩]) (.ret))))
theorem t20 : Try.f20.body.bind (trC e20) = some c20 := by kernel_rfl
theorem r20 : Try.f20.results.toList.mapM (trR Try.prog) = some [.tmp 2] := by kernel_rfl
theorem fn20 {args : List Value} {M : Mem} {post : Value → Mem → Prop} (hl : args.length ≤ 23) (h : VC e20 c20 (fnQ [.tmp 2] post) (initS args 23) M) : Fn Try.prog 20 args M post :=
  Fn.of' (E := e20) Try.func20 t20 rfl r20 mixed hl h
/-! laws.markActS -/
noncomputable def e23 : Env := ⟨Try.prog, [], 48, []⟩
noncomputable def c23 : C :=
  .seq (.reg [
    ⟨some 4, none, .mov (.const (.int .i64 0))⟩]) (.seq (.seq (.reg [
    ⟨some 5, none, .mov (.const (.int .i64 0))⟩]) (.block 0 (.loop (.seq (.seq (.reg [
    ⟨some 6, none, .mov (.tmp 5)⟩,
    ⟨some 7, none, .mov (.tmp 0)⟩,
    ⟨some 8, none, .lenS (.tmp 7)⟩,
    ⟨some 9, none, .bin .lss (.tmp 6) (.tmp 8)⟩]) (.cond (.tmp 9) (.skip) (.exit 0))) (.seq (.block 1 (.seq (.reg [
    ⟨some 12, none, .mov (.tmp 0)⟩,
    ⟨some 13, none, .mov (.tmp 5)⟩,
    ⟨some 14, none, .mov (.tmp 1)⟩,
    ⟨some 15, none, .iaddr 5 (.tmp 12) (.tmp 13)⟩,
    ⟨some 16, none, .faddr 0 (.tmp 15)⟩,
    ⟨none, none, .store 1 (.tmp 16) (.tmp 14)⟩]) (.seq (.reg [
    ⟨some 17, none, .mov (.tmp 1)⟩,
    ⟨some 18, none, .bin .add (.tmp 17) (.const (.int .i64 1))⟩,
    ⟨some 1, none, .mov (.tmp 18)⟩]) (.seq (.reg [
    ⟨some 19, none, .mov (.tmp 0)⟩,
    ⟨some 20, none, .mov (.tmp 5)⟩,
    ⟨some 21, none, .mov (.tmp 1)⟩,
    ⟨some 22, none, .iaddr 5 (.tmp 19) (.tmp 20)⟩,
    ⟨some 23, none, .faddr 1 (.tmp 22)⟩,
    ⟨none, none, .store 1 (.tmp 23) (.tmp 21)⟩]) (.seq (.reg [
    ⟨some 24, none, .mov (.tmp 1)⟩,
    ⟨some 25, none, .bin .add (.tmp 24) (.const (.int .i64 1))⟩,
    ⟨some 1, none, .mov (.tmp 25)⟩]) (.seq (.reg [
    ⟨some 26, none, .mov (.tmp 0)⟩,
    ⟨some 27, none, .mov (.tmp 5)⟩,
    ⟨some 28, none, .mov (.tmp 1)⟩,
    ⟨some 29, none, .iaddr 5 (.tmp 26) (.tmp 27)⟩,
    ⟨some 30, none, .faddr 2 (.tmp 29)⟩,
    ⟨none, none, .store 1 (.tmp 30) (.tmp 28)⟩]) (.seq (.reg [
    ⟨some 31, none, .mov (.tmp 1)⟩,
    ⟨some 32, none, .bin .add (.tmp 31) (.const (.int .i64 1))⟩,
    ⟨some 1, none, .mov (.tmp 32)⟩]) (.seq (.reg [
    ⟨some 33, none, .mov (.tmp 0)⟩,
    ⟨some 34, none, .mov (.tmp 5)⟩,
    ⟨some 35, none, .mov (.tmp 1)⟩,
    ⟨some 36, none, .iaddr 5 (.tmp 33) (.tmp 34)⟩,
    ⟨some 37, none, .faddr 3 (.tmp 36)⟩,
    ⟨none, none, .store 1 (.tmp 37) (.tmp 35)⟩]) (.seq (.reg [
    ⟨some 38, none, .mov (.tmp 1)⟩,
    ⟨some 39, none, .bin .add (.tmp 38) (.const (.int .i64 1))⟩,
    ⟨some 1, none, .mov (.tmp 39)⟩]) (.seq (.reg [
    ⟨some 40, none, .mov (.tmp 0)⟩,
    ⟨some 41, none, .mov (.tmp 5)⟩,
    ⟨some 42, none, .mov (.tmp 1)⟩,
    ⟨some 43, none, .iaddr 5 (.tmp 40) (.tmp 41)⟩,
    ⟨some 44, none, .faddr 4 (.tmp 43)⟩,
    ⟨none, none, .store 1 (.tmp 44) (.tmp 42)⟩]) (.reg [
    ⟨some 45, none, .mov (.tmp 1)⟩,
    ⟨some 46, none, .bin .add (.tmp 45) (.const (.int .i64 1))⟩,
    ⟨some 1, none, .mov (.tmp 46)⟩]))))))))))) (.reg [
    ⟨some 10, none, .mov (.tmp 5)⟩,
    ⟨some 11, none, .bin .add (.tmp 10) (.const (.int .i64 1))⟩,
    ⟨some 5, none, .mov (.tmp 11)⟩])))))) (.seq (.reg [
    ⟨some 47, none, .mov (.tmp 1)⟩,
    ⟨some 4, none, .mov (.tmp 47)⟩]) (.ret)))
theorem t23 : Try.f23.body.bind (trC e23) = some c23 := by kernel_rfl
theorem r23 : Try.f23.results.toList.mapM (trR Try.prog) = some [.tmp 4] := by kernel_rfl
theorem fn23 {args : List Value} {M : Mem} {post : Value → Mem → Prop} (hl : args.length ≤ 48) (h : VC e23 c23 (fnQ [.tmp 4] post) (initS args 48) M) : Fn Try.prog 23 args M post :=
  Fn.of' (E := e23) Try.func23 t23 rfl r23 mixed hl h
/-! laws.heldActS -/
noncomputable def e24 : Env := ⟨Try.prog, [], 58, []⟩
noncomputable def c24 : C :=
  .seq (.reg [
    ⟨some 4, none, .mov (.const (.int .i64 0))⟩]) (.seq (.seq (.reg [
    ⟨some 5, none, .mov (.const (.int .i64 0))⟩]) (.block 0 (.loop (.seq (.seq (.reg [
    ⟨some 6, none, .mov (.tmp 5)⟩,
    ⟨some 7, none, .mov (.tmp 0)⟩,
    ⟨some 8, none, .lenS (.tmp 7)⟩,
    ⟨some 9, none, .bin .lss (.tmp 6) (.tmp 8)⟩]) (.cond (.tmp 9) (.skip) (.exit 0))) (.seq (.block 1 (.seq (.seq (.reg [
    ⟨some 12, none, .mov (.tmp 0)⟩,
    ⟨some 13, none, .mov (.tmp 5)⟩,
    ⟨some 14, none, .iaddr 5 (.tmp 12) (.tmp 13)⟩,
    ⟨some 15, none, .faddr 0 (.tmp 14)⟩,
    ⟨some 16, none, .load true 1 (.tmp 15)⟩,
    ⟨some 17, none, .mov (.tmp 1)⟩,
    ⟨some 18, none, .bin .neq (.tmp 16) (.tmp 17)⟩]) (.cond (.tmp 18) (.seq (.reg [
    ⟨some 4, none, .mov (.const (.int .i64 (-1)))⟩]) (.ret)) (.skip))) (.seq (.reg [
    ⟨some 19, none, .mov (.tmp 1)⟩,
    ⟨some 20, none, .bin .add (.tmp 19) (.const (.int .i64 1))⟩,
    ⟨some 1, none, .mov (.tmp 20)⟩]) (.seq (.seq (.reg [
    ⟨some 21, none, .mov (.tmp 0)⟩,
    ⟨some 22, none, .mov (.tmp 5)⟩,
    ⟨some 23, none, .iaddr 5 (.tmp 21) (.tmp 22)⟩,
    ⟨some 24, none, .faddr 1 (.tmp 23)⟩,
    ⟨some 25, none, .load true 1 (.tmp 24)⟩,
    ⟨some 26, none, .mov (.tmp 1)⟩,
    ⟨some 27, none, .bin .neq (.tmp 25) (.tmp 26)⟩]) (.cond (.tmp 27) (.seq (.reg [
    ⟨some 4, none, .mov (.const (.int .i64 (-1)))⟩]) (.ret)) (.skip))) (.seq (.reg [
    ⟨some 28, none, .mov (.tmp 1)⟩,
    ⟨some 29, none, .bin .add (.tmp 28) (.const (.int .i64 1))⟩,
    ⟨some 1, none, .mov (.tmp 29)⟩]) (.seq (.seq (.reg [
    ⟨some 30, none, .mov (.tmp 0)⟩,
    ⟨some 31, none, .mov (.tmp 5)⟩,
    ⟨some 32, none, .iaddr 5 (.tmp 30) (.tmp 31)⟩,
    ⟨some 33, none, .faddr 2 (.tmp 32)⟩,
    ⟨some 34, none, .load true 1 (.tmp 33)⟩,
    ⟨some 35, none, .mov (.tmp 1)⟩,
    ⟨some 36, none, .bin .neq (.tmp 34) (.tmp 35)⟩]) (.cond (.tmp 36) (.seq (.reg [
    ⟨some 4, none, .mov (.const (.int .i64 (-1)))⟩]) (.ret)) (.skip))) (.seq (.reg [
    ⟨some 37, none, .mov (.tmp 1)⟩,
    ⟨some 38, none, .bin .add (.tmp 37) (.const (.int .i64 1))⟩,
    ⟨some 1, none, .mov (.tmp 38)⟩]) (.seq (.seq (.reg [
    ⟨some 39, none, .mov (.tmp 0)⟩,
    ⟨some 40, none, .mov (.tmp 5)⟩,
    ⟨some 41, none, .iaddr 5 (.tmp 39) (.tmp 40)⟩,
    ⟨some 42, none, .faddr 3 (.tmp 41)⟩,
    ⟨some 43, none, .load true 1 (.tmp 42)⟩,
    ⟨some 44, none, .mov (.tmp 1)⟩,
    ⟨some 45, none, .bin .neq (.tmp 43) (.tmp 44)⟩]) (.cond (.tmp 45) (.seq (.reg [
    ⟨some 4, none, .mov (.const (.int .i64 (-1)))⟩]) (.ret)) (.skip))) (.seq (.reg [
    ⟨some 46, none, .mov (.tmp 1)⟩,
    ⟨some 47, none, .bin .add (.tmp 46) (.const (.int .i64 1))⟩,
    ⟨some 1, none, .mov (.tmp 47)⟩]) (.seq (.seq (.reg [
    ⟨some 48, none, .mov (.tmp 0)⟩,
    ⟨some 49, none, .mov (.tmp 5)⟩,
    ⟨some 50, none, .iaddr 5 (.tmp 48) (.tmp 49)⟩,
    ⟨some 51, none, .faddr 4 (.tmp 50)⟩,
    ⟨some 52, none, .load true 1 (.tmp 51)⟩,
    ⟨some 53, none, .mov (.tmp 1)⟩,
    ⟨some 54, none, .bin .neq (.tmp 52) (.tmp 53)⟩]) (.cond (.tmp 54) (.seq (.reg [
    ⟨some 4, none, .mov (.const (.int .i64 (-1)))⟩]) (.ret)) (.skip))) (.reg [
    ⟨some 55, none, .mov (.tmp 1)⟩,
    ⟨some 56, none, .bin .add (.tmp 55) (.const (.int .i64 1))⟩,
    ⟨some 1, none, .mov (.tmp 56)⟩]))))))))))) (.reg [
    ⟨some 10, none, .mov (.tmp 5)⟩,
    ⟨some 11, none, .bin .add (.tmp 10) (.const (.int .i64 1))⟩,
    ⟨some 5, none, .mov (.tmp 11)⟩])))))) (.seq (.reg [
    ⟨some 57, none, .mov (.tmp 1)⟩,
    ⟨some 4, none, .mov (.tmp 57)⟩]) (.ret)))
theorem t24 : Try.f24.body.bind (trC e24) = some c24 := by kernel_rfl
theorem r24 : Try.f24.results.toList.mapM (trR Try.prog) = some [.tmp 4] := by kernel_rfl
theorem fn24 {args : List Value} {M : Mem} {post : Value → Mem → Prop} (hl : args.length ≤ 58) (h : VC e24 c24 (fnQ [.tmp 4] post) (initS args 58) M) : Fn Try.prog 24 args M post :=
  Fn.of' (E := e24) Try.func24 t24 rfl r24 mixed hl h
end Go.Proofs.Ytcmllambknfleaa.E
