/- The functions of the program in the engine's form, written by a program out of the loaded translation, and checked against it by the kernel. Conditions: none. -/
import Derived.Test.YtcmllambknfleaaKB4
set_option maxRecDepth 100000
set_option linter.unusedVariables false
namespace Go.Proofs.Ytcmllambknfleaa.E
open Go
/-! laws.szWordS -/
noncomputable def e81 : Env := ⟨Try.prog, [], 12, []⟩
noncomputable def c81 : C :=
  .seq (.reg [
    ⟨some 4, none, .mov (.const (.int .i64 0))⟩]) (.seq (.reg [
    ⟨some 5, none, .mov (.tmp 1)⟩,
    ⟨some 6, none, .mov (.tmp 0)⟩,
    ⟨some 7, none, .lenS (.tmp 6)⟩,
    ⟨some 8, none, .bin .sub (.tmp 5) (.tmp 7)⟩,
    ⟨some 1, none, .mov (.tmp 8)⟩]) (.seq (.seq (.reg [
    ⟨some 9, none, .mov (.tmp 1)⟩,
    ⟨some 10, none, .bin .lss (.tmp 9) (.const (.int .i64 0))⟩]) (.cond (.tmp 10) (.seq (.reg [
    ⟨some 4, none, .mov (.const (.int .i64 (-1)))⟩]) (.ret)) (.skip))) (.seq (.reg [
    ⟨some 11, none, .mov (.tmp 1)⟩,
    ⟨some 4, none, .mov (.tmp 11)⟩]) (.ret))))
theorem t81 : Try.f81.body.bind (trC e81) = some c81 := by kernel_rfl
theorem r81 : Try.f81.results.toList.mapM (trR Try.prog) = some [.tmp 4] := by kernel_rfl
theorem fn81 {args : List Value} {M : Mem} {post : Value → Mem → Prop} (hl : args.length ≤ 12) (h : VC e81 c81 (fnQ [.tmp 4] post) (initS args 12) M) : Fn Try.prog 81 args M post :=
  Fn.of' (E := e81) Try.func81 t81 rfl r81 mixed hl h
/-! laws.szPairS -/
noncomputable def e164 : Env := ⟨Try.prog, [], 12, []⟩
noncomputable def c164 : C :=
  .seq (.reg [
    ⟨some 4, none, .mov (.const (.int .i64 0))⟩]) (.seq (.reg [
    ⟨some 5, none, .mov (.tmp 1)⟩,
    ⟨some 6, none, .mov (.tmp 0)⟩,
    ⟨some 7, none, .lenS (.tmp 6)⟩,
    ⟨some 8, none, .bin .sub (.tmp 5) (.tmp 7)⟩,
    ⟨some 1, none, .mov (.tmp 8)⟩]) (.seq (.seq (.reg [
    ⟨some 9, none, .mov (.tmp 1)⟩,
    ⟨some 10, none, .bin .lss (.tmp 9) (.const (.int .i64 0))⟩]) (.cond (.tmp 10) (.seq (.reg [
    ⟨some 4, none, .mov (.const (.int .i64 (-1)))⟩]) (.ret)) (.skip))) (.seq (.reg [
    ⟨some 11, none, .mov (.tmp 1)⟩,
    ⟨some 4, none, .mov (.tmp 11)⟩]) (.ret))))
theorem t164 : Try.f164.body.bind (trC e164) = some c164 := by kernel_rfl
theorem r164 : Try.f164.results.toList.mapM (trR Try.prog) = some [.tmp 4] := by kernel_rfl
theorem fn164 {args : List Value} {M : Mem} {post : Value → Mem → Prop} (hl : args.length ≤ 12) (h : VC e164 c164 (fnQ [.tmp 4] post) (initS args 12) M) : Fn Try.prog 164 args M post :=
  Fn.of' (E := e164) Try.func164 t164 rfl r164 mixed hl h
/-! laws.szCell -/
noncomputable def e133 : Env := ⟨Try.prog, [2], 12, []⟩
noncomputable def c133 : C :=
  .seq (.reg [
    ⟨some 2, none, .box true (.tmp 0)⟩,
    ⟨some 4, none, .mov (.const (.int .i64 0))⟩]) (.seq (.reg [
    ⟨some 5, none, .faddr 7 (.tmp 2)⟩,
    ⟨some 6, none, .load true 1 (.tmp 5)⟩,
    ⟨some 7, none, .mov (.tmp 1)⟩,
    ⟨some 8, none, .call 164 [.tmp 6, .tmp 7]⟩,
    ⟨some 1, none, .mov (.tmp 8)⟩]) (.seq (.seq (.reg [
    ⟨some 9, none, .mov (.tmp 1)⟩,
    ⟨some 10, none, .bin .lss (.tmp 9) (.const (.int .i64 0))⟩]) (.cond (.tmp 10) (.seq (.reg [
    ⟨some 4, none, .mov (.const (.int .i64 (-1)))⟩]) (.ret)) (.skip))) (.seq (.reg [
    ⟨some 11, none, .mov (.tmp 1)⟩,
    ⟨some 4, none, .mov (.tmp 11)⟩]) (.ret))))
theorem t133 : Try.f133.body.bind (trC e133) = some c133 := by kernel_rfl
theorem r133 : Try.f133.results.toList.mapM (trR Try.prog) = some [.tmp 4] := by kernel_rfl
theorem fn133 {args : List Value} {M : Mem} {post : Value → Mem → Prop} (hl : args.length ≤ 12) (h : VC e133 c133 (fnQ [.tmp 4] post) (initS args 12) M) : Fn Try.prog 133 args M post :=
  Fn.of' (E := e133) Try.func133 t133 rfl r133 mixed hl h
/-! laws.szCellS -/
noncomputable def e82 : Env := ⟨Try.prog, [], 27, []⟩
noncomputable def c82 : C :=
  .seq (.reg [
    ⟨some 4, none, .mov (.const (.int .i64 0))⟩]) (.seq (.reg [
    ⟨some 6, none, .mov (.tmp 1)⟩,
    ⟨some 7, none, .mov (.tmp 0)⟩,
    ⟨some 8, none, .lenS (.tmp 7)⟩,
    ⟨some 9, none, .bin .sub (.tmp 6) (.tmp 8)⟩,
    ⟨some 1, none, .mov (.tmp 9)⟩]) (.seq (.seq (.reg [
    ⟨some 10, none, .mov (.tmp 1)⟩,
    ⟨some 11, none, .bin .lss (.tmp 10) (.const (.int .i64 0))⟩]) (.cond (.tmp 11) (.seq (.reg [
    ⟨some 4, none, .mov (.const (.int .i64 (-1)))⟩]) (.ret)) (.skip))) (.seq (.seq (.reg [
    ⟨some 5, none, .mov (.const (.int .i64 0))⟩]) (.block 0 (.loop (.seq (.seq (.reg [
    ⟨some 12, none, .mov (.tmp 5)⟩,
    ⟨some 13, none, .mov (.tmp 0)⟩,
    ⟨some 14, none, .lenS (.tmp 13)⟩,
    ⟨some 15, none, .bin .lss (.tmp 12) (.tmp 14)⟩]) (.cond (.tmp 15) (.skip) (.exit 0))) (.seq (.block 1 (.seq (.reg [
    ⟨some 18, none, .mov (.tmp 0)⟩,
    ⟨some 19, none, .mov (.tmp 5)⟩,
    ⟨some 20, none, .iaddr 8 (.tmp 18) (.tmp 19)⟩,
    ⟨some 21, none, .load false 8 (.tmp 20)⟩,
    ⟨some 22, none, .mov (.tmp 1)⟩,
    ⟨some 23, none, .call 133 [.tmp 21, .tmp 22]⟩,
    ⟨some 1, none, .mov (.tmp 23)⟩]) (.seq (.reg [
    ⟨some 24, none, .mov (.tmp 1)⟩,
    ⟨some 25, none, .bin .lss (.tmp 24) (.const (.int .i64 0))⟩]) (.cond (.tmp 25) (.seq (.reg [
    ⟨some 4, none, .mov (.const (.int .i64 (-1)))⟩]) (.ret)) (.skip))))) (.reg [
    ⟨some 16, none, .mov (.tmp 5)⟩,
    ⟨some 17, none, .bin .add (.tmp 16) (.const (.int .i64 1))⟩,
    ⟨some 5, none, .mov (.tmp 17)⟩])))))) (.seq (.reg [
    ⟨some 26, none, .mov (.tmp 1)⟩,
    ⟨some 4, none, .mov (.tmp 26)⟩]) (.ret)))))
theorem t82 : Try.f82.body.bind (trC e82) = some c82 := by kernel_rfl
theorem r82 : Try.f82.results.toList.mapM (trR Try.prog) = some [.tmp 4] := by kernel_rfl
theorem fn82 {args : List Value} {M : Mem} {post : Value → Mem → Prop} (hl : args.length ≤ 27) (h : VC e82 c82 (fnQ [.tmp 4] post) (initS args 27) M) : Fn Try.prog 82 args M post :=
  Fn.of' (E := e82) Try.func82 t82 rfl r82 mixed hl h
/-! laws.szIntS -/
noncomputable def e83 : Env := ⟨Try.prog, [], 12, []⟩
noncomputable def c83 : C :=
  .seq (.reg [
    ⟨some 4, none, .mov (.const (.int .i64 0))⟩]) (.seq (.reg [
    ⟨some 5, none, .mov (.tmp 1)⟩,
    ⟨some 6, none, .mov (.tmp 0)⟩,
    ⟨some 7, none, .lenS (.tmp 6)⟩,
    ⟨some 8, none, .bin .sub (.tmp 5) (.tmp 7)⟩,
    ⟨some 1, none, .mov (.tmp 8)⟩]) (.seq (.seq (.reg [
    ⟨some 9, none, .mov (.tmp 1)⟩,
    ⟨some 10, none, .bin .lss (.tmp 9) (.const (.int .i64 0))⟩]) (.cond (.tmp 10) (.seq (.reg [
    ⟨some 4, none, .mov (.const (.int .i64 (-1)))⟩]) (.ret)) (.skip))) (.seq (.reg [
    ⟨some 11, none, .mov (.tmp 1)⟩,
    ⟨some 4, none, .mov (.tmp 11)⟩]) (.ret))))
theorem t83 : Try.f83.body.bind (trC e83) = some c83 := by kernel_rfl
theorem r83 : Try.f83.results.toList.mapM (trR Try.prog) = some [.tmp 4] := by kernel_rfl
theorem fn83 {args : List Value} {M : Mem} {post : Value → Mem → Prop} (hl : args.length ≤ 12) (h : VC e83 c83 (fnQ [.tmp 4] post) (initS args 12) M) : Fn Try.prog 83 args M post :=
  Fn.of' (E := e83) Try.func83 t83 rfl r83 mixed hl h
/-! laws.szHeap -/
noncomputable def e30 : Env := ⟨Try.prog, [2], 24, []⟩
noncomputable def c30 : C :=
  .seq (.reg [
    ⟨some 2, none, .box true (.tmp 0)⟩,
    ⟨some 4, none, .mov (.const (.int .i64 0))⟩]) (.seq (.reg [
    ⟨some 5, none, .faddr 3 (.tmp 2)⟩,
    ⟨some 6, none, .load true 1 (.tmp 5)⟩,
    ⟨some 7, none, .mov (.tmp 1)⟩,
    ⟨some 8, none, .call 81 [.tmp 6, .tmp 7]⟩,
    ⟨some 1, none, .mov (.tmp 8)⟩]) (.seq (.seq (.reg [
    ⟨some 9, none, .mov (.tmp 1)⟩,
    ⟨some 10, none, .bin .lss (.tmp 9) (.const (.int .i64 0))⟩]) (.cond (.tmp 10) (.seq (.reg [
    ⟨some 4, none, .mov (.const (.int .i64 (-1)))⟩]) (.ret)) (.skip))) (.seq (.reg [
    ⟨some 11, none, .faddr 4 (.tmp 2)⟩,
    ⟨some 12, none, .load true 1 (.tmp 11)⟩,
    ⟨some 13, none, .mov (.tmp 1)⟩,
    ⟨some 14, none, .call 82 [.tmp 12, .tmp 13]⟩,
    ⟨some 1, none, .mov (.tmp 14)⟩]) (.seq (.seq (.reg [
    ⟨some 15, none, .mov (.tmp 1)⟩,
    ⟨some 16, none, .bin .lss (.tmp 15) (.const (.int .i64 0))⟩]) (.cond (.tmp 16) (.seq (.reg [
    ⟨some 4, none, .mov (.const (.int .i64 (-1)))⟩]) (.ret)) (.skip))) (.seq (.reg [
    ⟨some 17, none, .faddr 8 (.tmp 2)⟩,
    ⟨some 18, none, .load true 1 (.tmp 17)⟩,
    ⟨some 19, none, .mov (.tmp 1)⟩,
    ⟨some 20, none, .call 83 [.tmp 18, .tmp 19]⟩,
    ⟨some 1, none, .mov (.tmp 20)⟩]) (.seq (.seq (.reg [
    ⟨some 21, none, .mov (.tmp 1)⟩,
    ⟨some 22, none, .bin .lss (.tmp 21) (.const (.int .i64 0))⟩]) (.cond (.tmp 22) (.seq (.reg [
    ⟨some 4, none, .mov (.const (.int .i64 (-1)))⟩]) (.ret)) (.skip))) (.seq (.reg [
    ⟨some 23, none, .mov (.tmp 1)⟩,
    ⟨some 4, none, .mov (.tmp 23)⟩]) (.ret))))))))
theorem t30 : Try.f30.body.bind (trC e30) = some c30 := by kernel_rfl
theorem r30 : Try.f30.results.toList.mapM (trR Try.prog) = some [.tmp 4] := by kernel_rfl
theorem fn30 {args : List Value} {M : Mem} {post : Value → Mem → Prop} (hl : args.length ≤ 24) (h : VC e30 c30 (fnQ [.tmp 4] post) (initS args 24) M) : Fn Try.prog 30 args M post :=
  Fn.of' (E := e30) Try.func30 t30 rfl r30 mixed hl h
/-! laws.toWord -/
noncomputable def e35 : Env := ⟨Try.prog, [1, 2, 3], 14, []⟩
noncomputable def c35 : C :=
  .seq (.reg [
    ⟨some 1, none, .box true (.tmp 0)⟩,
    ⟨some 2, none, .alloc true [.int .i64 0, .int .i64 0, .int .i64 0]⟩]) (.seq (.reg [
    ⟨some 3, none, .alloc true [.int .i64 0, .int .i64 0, .int .i64 0]⟩]) (.seq (.reg [
    ⟨some 4, none, .faddr 0 (.tmp 1)⟩,
    ⟨some 5, none, .load true 1 (.tmp 4)⟩,
    ⟨some 6, none, .faddr 0 (.tmp 3)⟩,
    ⟨none, none, .store 1 (.tmp 6) (.tmp 5)⟩]) (.seq (.reg [
    ⟨some 7, none, .faddr 1 (.tmp 1)⟩,
    ⟨some 8, none, .load true 1 (.tmp 7)⟩,
    ⟨some 9, none, .faddr 1 (.tmp 3)⟩,
    ⟨none, none, .store 1 (.tmp 9) (.tmp 8)⟩]) (.seq (.reg [
    ⟨some 10, none, .faddr 2 (.tmp 1)⟩,
    ⟨some 11, none, .load true 1 (.tmp 10)⟩,
    ⟨some 12, none, .faddr 2 (.tmp 3)⟩,
    ⟨none, none, .store 1 (.tmp 12) (.tmp 11)⟩]) (.seq (.reg [
    ⟨some 13, none, .load false 3 (.tmp 3)⟩,
    ⟨none, none, .store 3 (.tmp 2) (.tmp 13)⟩]) (.ret))))))
theorem t35 : Try.f35.body.bind (trC e35) = some c35 := by kernel_rfl
theorem r35 : Try.f35.results.toList.mapM (trR Try.prog) = some [.cell 2 false 3] := by kernel_rfl
theorem fn35 {args : List Value} {M : Mem} {post : Value → Mem → Prop} (hl : args.length ≤ 14) (h : VC e35 c35 (fnQ [.cell 2 false 3] post) (initS args 14) M) : Fn Try.prog 35 args M post :=
  Fn.of' (E := e35) Try.func35 t35 rfl r35 mixed hl h
/-! laws.toWordS -/
noncomputable def e92 : Env := ⟨Try.prog, [], 23, []⟩
noncomputable def c92 : C :=
  .seq (.reg [
    ⟨some 2, none, .mov (.const (.slice none 0 0))⟩]) (.seq (.reg [
    ⟨some 5, none, .mov (.tmp 0)⟩,
    ⟨some 6, none, .lenS (.tmp 5)⟩,
    ⟨some 7, none, .mkslice 3 24 [.int .i64 0, .int .i64 0, .int .i64 0] (.tmp 6) (.tmp 6)⟩,
    ⟨some 3, none, .mov (.tmp 7)⟩]) (.seq (.seq (.reg [
    ⟨some 4, none, .mov (.const (.int .i64 0))⟩]) (.block 0 (.loop (.seq (.seq (.reg [
    ⟨some 8, none, .mov (.tmp 4)⟩,
    ⟨some 9, none, .mov (.tmp 0)⟩,
    ⟨some 10, none, .lenS (.tmp 9)⟩,
    ⟨some 11, none, .bin .lss (.tmp 8) (.tmp 10)⟩]) (.cond (.tmp 11) (.skip) (.exit 0))) (.seq (.block 1 (.reg [
    ⟨some 14, none, .mov (.tmp 3)⟩,
    ⟨some 15, none, .mov (.tmp 4)⟩,
    ⟨some 16, none, .mov (.tmp 0)⟩,
    ⟨some 17, none, .mov (.tmp 4)⟩,
    ⟨some 18, none, .iaddr 3 (.tmp 16) (.tmp 17)⟩,
    ⟨some 19, none, .load false 3 (.tmp 18)⟩,
    ⟨some 20, none, .call 35 [.tmp 19]⟩,
    ⟨some 21, none, .iaddr 3 (.tmp 14) (.tmp 15)⟩,
    ⟨none, none, .store 3 (.tmp 21) (.tmp 20)⟩])) (.reg [
    ⟨some 12, none, .mov (.tmp 4)⟩,
    ⟨some 13, none, .bin .add (.tmp 12) (.const (.int .i64 1))⟩,
    ⟨some 4, none, .mov (.tmp 13)⟩])))))) (.seq (.reg [
    ⟨some 22, none, .mov (.tmp 3)⟩,
    ⟨some 2, none, .mov (.tmp 22)⟩]) (.ret))))
theorem t92 : Try.f92.body.bind (trC e92) = some c92 := by kernel_rfl
theorem r92 : Try.f92.results.toList.mapM (trR Try.prog) = some [.tmp 2] := by kernel_rfl
theorem fn92 {args : List Value} {M : Mem} {post : Value → Mem → Prop} (hl : args.length ≤ 23) (h : VC e92 c92 (fnQ [.tmp 2] post) (initS args 23) M) : Fn Try.prog 92 args M post :=
  Fn.of' (E := e92) Try.func92 t92 rfl r92 mixed hl h
/-! laws.toPair -/
noncomputable def e177 : Env := ⟨Try.prog, [1, 2, 3], 13, []⟩
noncomputable def c177 : C :=
  .seq (.reg [
    ⟨some 1, none, .box true (.tmp 0)⟩,
    ⟨some 2, none, .alloc true [.int .i64 0, .int .i64 0, .int .i64 0, .int .i64 0, .int .i64 0, .int .i64 0]⟩]) (.seq (.reg [
    ⟨some 3, none, .alloc true [.int .i64 0, .int .i64 0, .int .i64 0, .int .i64 0, .int .i64 0, .int .i64 0]⟩]) (.seq (.reg [
    ⟨some 4, none, .faddr 0 (.tmp 1)⟩,
    ⟨some 5, none, .load false 3 (.tmp 4)⟩,
    ⟨some 6, none, .call 35 [.tmp 5]⟩,
    ⟨some 7, none, .faddr 0 (.tmp 3)⟩,
    ⟨none, none, .store 3 (.tmp 7) (.tmp 6)⟩]) (.seq (.reg [
    ⟨some 8, none, .faddr 3 (.tmp 1)⟩,
    ⟨some 9, none, .load false 3 (.tmp 8)⟩,
    ⟨some 10, none, .call 35 [.tmp 9]⟩,
    ⟨some 11, none, .faddr 3 (.tmp 3)⟩,
    ⟨none, none, .store 3 (.tmp 11) (.tmp 10)⟩]) (.seq (.reg [
    ⟨some 12, none, .load false 6 (.tmp 3)⟩,
    ⟨none, none, .store 6 (.tmp 2) (.tmp 12)⟩]) (.ret)))))
theorem t177 : Try.f177.body.bind (trC e177) = some c177 := by kernel_rfl
theorem r177 : Try.f177.results.toList.mapM (trR Try.prog) = some [.cell 2 false 6] := by kernel_rfl
theorem fn177 {args : List Value} {M : Mem} {post : Value → Mem → Prop} (hl : args.length ≤ 13) (h : VC e177 c177 (fnQ [.cell 2 false 6] post) (initS args 13) M) : Fn Try.prog 177 args M post :=
  Fn.of' (E := e177) Try.func177 t177 rfl r177 mixed hl h
/-! laws.toPairS -/
noncomputable def e165 : Env := ⟨Try.prog, [], 23, []⟩
noncomputable def c165 : C :=
  .seq (.reg [
    ⟨some 2, none, .mov (.const (.slice none 0 0))⟩]) (.seq (.reg [
    ⟨some 5, none, .mov (.tmp 0)⟩,
    ⟨some 6, none, .lenS (.tmp 5)⟩,
    ⟨some 7, none, .mkslice 6 48 [.int .i64 0, .int .i64 0, .int .i64 0, .int .i64 0, .int .i64 0, .int .i64 0] (.tmp 6) (.tmp 6)⟩,
    ⟨some 3, none, .mov (.tmp 7)⟩]) (.seq (.seq (.reg [
    ⟨some 4, none, .mov (.const (.int .i64 0))⟩]) (.block 0 (.loop (.seq (.seq (.reg [
    ⟨some 8, none, .mov (.tmp 4)⟩,
    ⟨some 9, none, .mov (.tmp 0)⟩,
    ⟨some 10, none, .lenS (.tmp 9)⟩,
    ⟨some 11, none, .bin .lss (.tmp 8) (.tmp 10)⟩]) (.cond (.tmp 11) (.skip) (.exit 0))) (.seq (.block 1 (.reg [
    ⟨some 14, none, .mov (.tmp 3)⟩,
    ⟨some 15, none, .mov (.tmp 4)⟩,
    ⟨some 16, none, .mov (.tmp 0)⟩,
    ⟨some 17, none, .mov (.tmp 4)⟩,
    ⟨some 18, none, .iaddr 6 (.tmp 16) (.tmp 17)⟩,
    ⟨some 19, none, .load false 6 (.tmp 18)⟩,
    ⟨some 20, none, .call 177 [.tmp 19]⟩,
    ⟨some 21, none, .iaddr 6 (.tmp 14) (.tmp 15)⟩,
    ⟨none, none, .store 6 (.tmp 21) (.tmp 20)⟩])) (.reg [
    ⟨some 12, none, .mov (.tmp 4)⟩,
    ⟨some 13, none, .bin .add (.tmp 12) (.const (.int .i64 1))⟩,
    ⟨some 4, none, .mov (.tmp 13)⟩])))))) (.seq (.reg [
    ⟨some 22, none, .mov (.tmp 3)⟩,
    ⟨some 2, none, .mov (.tmp 22)⟩]) (.ret))))
theorem t165 : Try.f165.body.bind (trC e165) = some c165 := by kernel_rfl
theorem r165 : Try.f165.results.toList.mapM (trR Try.prog) = some [.tmp 2] := by kernel_rfl
theorem fn165 {args : List Value} {M : Mem} {post : Value → Mem → Prop} (hl : args.length ≤ 23) (h : VC e165 c165 (fnQ [.tmp 2] post) (initS args 23) M) : Fn Try.prog 165 args M post :=
  Fn.of' (E := e165) Try.func165 t165 rfl r165 mixed hl h
/-! laws.toCell -/
noncomputable def e140 : Env := ⟨Try.prog, [1, 2, 3], 30, []⟩
noncomputable def c140 : C :=
  .seq (.reg [
    ⟨some 1, none, .box true (.tmp 0)⟩,
    ⟨some 2, none, .alloc true [.int .i64 0, .int .i64 0, .int .i64 0, .int .i64 0, .int .i64 0, .int .i64 0, .int .i64 0, .slice none 0 0]⟩]) (.seq (.reg [
    ⟨some 3, none, .alloc true [.int .i64 0, .int .i64 0, .int .i64 0, .int .i64 0, .int .i64 0, .int .i64 0, .int .i64 0, .slice none 0 0]⟩]) (.seq (.reg [
    ⟨some 4, none, .faddr 0 (.tmp 1)⟩,
    ⟨some 5, none, .load true 1 (.tmp 4)⟩,
    ⟨some 6, none, .faddr 0 (.tmp 3)⟩,
    ⟨none, none, .store 1 (.tmp 6) (.tmp 5)⟩]) (.seq (.reg [
    ⟨some 7, none, .faddr 1 (.tmp 1)⟩,
    ⟨some 8, none, .load true 1 (.tmp 7)⟩,
    ⟨some 9, none, .faddr 1 (.tmp 3)⟩,
    ⟨none, none, .store 1 (.tmp 9) (.tmp 8)⟩]) (.seq (.reg [
    ⟨some 10, none, .faddr 2 (.tmp 1)⟩,
    ⟨some 11, none, .load true 1 (.tmp 10)⟩,
    ⟨some 12, none, .faddr 2 (.tmp 3)⟩,
    ⟨none, none, .store 1 (.tmp 12) (.tmp 11)⟩]) (.seq (.reg [
    ⟨some 13, none, .faddr 3 (.tmp 1)⟩,
    ⟨some 14, none, .load true 1 (.tmp 13)⟩,
    ⟨some 15, none, .faddr 3 (.tmp 3)⟩,
    ⟨none, none, .store 1 (.tmp 15) (.tmp 14)⟩]) (.seq (.reg [
    ⟨some 16, none, .faddr 4 (.tmp 1)⟩,
    ⟨some 17, none, .load true 1 (.tmp 16)⟩,
    ⟨some 18, none, .faddr 4 (.tmp 3)⟩,
    ⟨none, none, .store 1 (.tmp 18) (.tmp 17)⟩]) (.seq (.reg [
    ⟨some 19, none, .faddr 5 (.tmp 1)⟩,
    ⟨some 20, none, .load true 1 (.tmp 19)⟩,
    ⟨some 21, none, .faddr 5 (.tmp 3)⟩,
    ⟨none, none, .store 1 (.tmp 21) (.tmp 20)⟩]) (.seq (.reg [
    ⟨some 22, none, .faddr 6 (.tmp 1)⟩,
    ⟨some 23, none, .load true 1 (.tmp 22)⟩,
    ⟨some 24, none, .faddr 6 (.tmp 3)⟩,
    ⟨none, none, .store 1 (.tmp 24) (.tmp 23)⟩]) (.seq (.reg [
    ⟨some 25, none, .faddr 7 (.tmp 1)⟩,
    ⟨some 26, none, .load true 1 (.tmp 25)⟩,
    ⟨some 27, none, .call 165 [.tmp 26]⟩,
    ⟨some 28, none, .faddr 7 (.tmp 3)⟩,
    ⟨none, none, .store 1 (.tmp 28) (.tmp 27)⟩]) (.seq (.reg [
    ⟨some 29, none, .load false 8 (.tmp 3)⟩,
    ⟨none, none, .store 8 (.tmp 2) (.tmp 29)⟩]) (.ret)))))))))))
theorem t140 : Try.f140.body.bind (trC e140) = some c140 := by kernel_rfl
theorem r140 : Try.f140.results.toList.mapM (trR Try.prog) = some [.cell 2 false 8] := by kernel_rfl
theorem fn140 {args : List Value} {M : Mem} {post : Value → Mem → Prop} (hl : args.length ≤ 30) (h : VC e140 c140 (fnQ [.cell 2 false 8] post) (initS args 30) M) : Fn Try.prog 140 args M post :=
  Fn.of' (E := e140) Try.func140 t140 rfl r140 mixed hl h
/-! laws.toCellS -/
noncomputable def e93 : Env := ⟨Try.prog, [], 23, []⟩
noncomputable def c93 : C :=
  .seq (.reg [
    ⟨some 2, none, .mov (.const (.slice none 0 0))⟩]) (.seq (.reg [
    ⟨some 5, none, .mov (.tmp 0)⟩,
    ⟨some 6, none, .lenS (.tmp 5)⟩,
    ⟨some 7, none, .mkslice 8 80 [.int .i64 0, .int .i64 0, .int .i64 0, .int .i64 0, .int .i64 0, .int .i64 0, .int .i64 0, .slice none 0 0] (.tmp 6) (.tmp 6)⟩,
    ⟨some 3, none, .mov (.tmp 7)⟩]) (.seq (.seq (.reg [
    ⟨some 4, none, .mov (.const (.int .i64 0))⟩]) (.block 0 (.loop (.seq (.seq (.reg [
    ⟨some 8, none, .mov (.tmp 4)⟩,
    ⟨some 9, none, .mov (.tmp 0)⟩,
    ⟨some 10, none, .lenS (.tmp 9)⟩,
    ⟨some 11, none, .bin .lss (.tmp 8) (.tmp 10)⟩]) (.cond (.tmp 11) (.skip) (.exit 0))) (.seq (.block 1 (.reg [
    ⟨some 14, none, .mov (.tmp 3)⟩,
    ⟨some 15, none, .mov (.tmp 4)⟩,
    ⟨some 16, none, .mov (.tmp 0)⟩,
    ⟨some 17, none, .mov (.tmp 4)⟩,
    ⟨some 18, none, .iaddr 8 (.tmp 16) (.tmp 17)⟩,
    ⟨some 19, none, .load false 8 (.tmp 18)⟩,
    ⟨some 20, none, .call 140 [.tmp 19]⟩,
    ⟨some 21, none, .iaddr 8 (.tmp 14) (.tmp 15)⟩,
    ⟨none, none, .store 8 (.tmp 21) (.tmp 20)⟩])) (.reg [
    ⟨some 12, none, .mov (.tmp 4)⟩,
    ⟨some 13, none, .bin .add (.tmp 12) (.const (.int .i64 1))⟩,
    ⟨some 4, none, .mov (.tmp 13)⟩])))))) (.seq (.reg [
    ⟨some 22, none, .mov (.tmp 3)⟩,
    ⟨some 2, none, .mov (.tmp 22)⟩]) (.ret))))
theorem t93 : Try.f93.body.bind (trC e93) = some c93 := by kernel_rfl
theorem r93 : Try.f93.results.toList.mapM (trR Try.prog) = some [.tmp 2] := by kernel_rfl
theorem fn93 {args : List Value} {M : Mem} {post : Value → Mem → Prop} (hl : args.length ≤ 23) (h : VC e93 c93 (fnQ [.tmp 2] post) (initS args 23) M) : Fn Try.prog 93 args M post :=
  Fn.of' (E := e93) Try.func93 t93 rfl r93 mixed hl h
/-! laws.toIntS -/
noncomputable def e94 : Env := ⟨Try.prog, [], 22, []⟩
noncomputable def c94 : C :=
  .seq (.reg [
    ⟨some 2, none, .mov (.const (.slice none 0 0))⟩]) (.seq (.reg [
    ⟨some 5, none, .mov (.tmp 0)⟩,
    ⟨some 6, none, .lenS (.tmp 5)⟩,
    ⟨some 7, none, .mkslice 1 8 [.int .i64 0] (.tmp 6) (.tmp 6)⟩,
    ⟨some 3, none, .mov (.tmp 7)⟩]) (.seq (.seq (.reg [
    ⟨some 4, none, .mov (.const (.int .i64 0))⟩]) (.block 0 (.loop (.seq (.seq (.reg [
    ⟨some 8, none, .mov (.tmp 4)⟩,
    ⟨some 9, none, .mov (.tmp 0)⟩,
    ⟨some 10, none, .lenS (.tmp 9)⟩,
    ⟨some 11, none, .bin .lss (.tmp 8) (.tmp 10)⟩]) (.cond (.tmp 11) (.skip) (.exit 0))) (.seq (.block 1 (.reg [
    ⟨some 14, none, .mov (.tmp 3)⟩,
    ⟨some 15, none, .mov (.tmp 4)⟩,
    ⟨some 16, none, .mov (.tmp 0)⟩,
    ⟨some 17, none, .mov (.tmp 4)⟩,
    ⟨some 18, none, .iaddr 1 (.tmp 16) (.tmp 17)⟩,
    ⟨some 19, none, .load true 1 (.tmp 18)⟩,
    ⟨some 20, none, .iaddr 1 (.tmp 14) (.tmp 15)⟩,
    ⟨none, none, .store 1 (.tmp 20) (.tmp 19)⟩])) (.reg [
    ⟨some 12, none, .mov (.tmp 4)⟩,
    ⟨some 13, none, .bin .add (.tmp 12) (.const (.int .i64 1))⟩,
    ⟨some 4, none, .mov (.tmp 13)⟩])))))) (.seq (.reg [
    ⟨some 21, none, .mov (.tmp 3)⟩,
    ⟨some 2, none, .mov (.tmp 21)⟩]) (.ret))))
theorem t94 : Try.f94.body.bind (trC e94) = some c94 := by kernel_rfl
theorem r94 : Try.f94.results.toList.mapM (trR Try.prog) = some [.tmp 2] := by kernel_rfl
theorem fn94 {args : List Value} {M : Mem} {post : Value → Mem → Prop} (hl : args.length ≤ 22) (h : VC e94 c94 (fnQ [.tmp 2] post) (initS args 22) M) : Fn Try.prog 94 args M post :=
  Fn.of' (E := e94) Try.func94 t94 rfl r94 mixed hl h
/-! laws.toHeap -/
noncomputable def e32 : Env := ⟨Try.prog, [1, 2, 3], 47, []⟩
noncomputable def c32 : C :=
  .seq (.reg [
    ⟨some 1, none, .box true (.tmp 0)⟩,
    ⟨some 2, none, .alloc true [.int .i64 0, .int .i64 0, .int .i64 0, .slice none 0 0, .slice none 0 0, .int .i64 0, .int .i64 0, .int .i64 0, .slice none 0 0, .int .i64 0, .int .i64 0, .int .i64 0, .int .i64 0]⟩]) (.seq (.reg [
    ⟨some 3, none, .alloc true [.int .i64 0, .int .i64 0, .int .i64 0, .slice none 0 0, .slice none 0 0, .int .i64 0, .int .i64 0, .int .i64 0, .slice none 0 0, .int .i64 0, .int .i64 0, .int .i64 0, .int .i64 0]⟩]) (.seq (.reg [
    ⟨some 4, none, .faddr 0 (.tmp 1)⟩,
    ⟨some 5, none, .load true 1 (.tmp 4)⟩,
    ⟨some 6, none, .faddr 0 (.tmp 3)⟩,
    ⟨none, none, .store 1 (.tmp 6) (.tmp 5)⟩]) (.seq (.reg [
    ⟨some 7, none, .faddr 1 (.tmp 1)⟩,
    ⟨some 8, none, .load true 1 (.tmp 7)⟩,
    ⟨some 9, none, .faddr 1 (.tmp 3)⟩,
    ⟨none, none, .store 1 (.tmp 9) (.tmp 8)⟩]) (.seq (.reg [
    ⟨some 10, none, .faddr 2 (.tmp 1)⟩,
    ⟨some 11, none, .load true 1 (.tmp 10)⟩,
    ⟨some 12, none, .faddr 2 (.tmp 3)⟩,
    ⟨none, none, .store 1 (.tmp 12) (.tmp 11)⟩]) (.seq (.reg [
    ⟨some 13, none, .faddr 3 (.tmp 1)⟩,
    ⟨some 14, none, .load true 1 (.tmp 13)⟩,
    ⟨some 15, none, .call 92 [.tmp 14]⟩,
    ⟨some 16, none, .faddr 3 (.tmp 3)⟩,
    ⟨none, none, .store 1 (.tmp 16) (.tmp 15)⟩]) (.seq (.reg [
    ⟨some 17, none, .faddr 4 (.tmp 1)⟩,
    ⟨some 18, none, .load true 1 (.tmp 17)⟩,
    ⟨some 19, none, .call 93 [.tmp 18]⟩,
    ⟨some 20, none, .faddr 4 (.tmp 3)⟩,
    ⟨none, none, .store 1 (.tmp 20) (.tmp 19)⟩]) (.seq (.reg [
    ⟨some 21, none, .faddr 5 (.tmp 1)⟩,
    ⟨some 22, none, .load true 1 (.tmp 21)⟩,
    ⟨some 23, none, .faddr 5 (.tmp 3)⟩,
    ⟨none, none, .store 1 (.tmp 23) (.tmp 22)⟩]) (.seq (.reg [
    ⟨some 24, none, .faddr 6 (.tmp 1)⟩,
    ⟨some 25, none, .load true 1 (.tmp 24)⟩,
    ⟨some 26, none, .faddr 6 (.tmp 3)⟩,
    ⟨none, none, .store 1 (.tmp 26) (.tmp 25)⟩]) (.seq (.reg [
    ⟨some 27, none, .faddr 7 (.tmp 1)⟩,
    ⟨some 28, none, .load true 1 (.tmp 27)⟩,
    ⟨some 29, none, .faddr 7 (.tmp 3)⟩,
    ⟨none, none, .store 1 (.tmp 29) (.tmp 28)⟩]) (.seq (.reg [
    ⟨some 30, none, .faddr 8 (.tmp 1)⟩,
    ⟨some 31, none, .load true 1 (.tmp 30)⟩,
    ⟨some 32, none, .call 94 [.tmp 31]⟩,
    ⟨some 33, none, .faddr 8 (.tmp 3)⟩,
    ⟨none, none, .store 1 (.tmp 33) (.tmp 32)⟩]) (.seq (.reg [
    ⟨some 34, none, .faddr 9 (.tmp 1)⟩,
    ⟨some 35, none, .load true 1 (.tmp 34)⟩,
    ⟨some 36, none, .faddr 9 (.tmp 3)⟩,
    ⟨none, none, .store 1 (.tmp 36) (.tmp 35)⟩]) (.seq (.reg [
    ⟨some 37, none, .faddr 10 (.tmp 1)⟩,
    ⟨some 38, none, .load true 1 (.tmp 37)⟩,
    ⟨some 39, none, .faddr 10 (.tmp 3)⟩,
    ⟨none, none, .store 1 (.tmp 39) (.tmp 38)⟩]) (.seq (.reg [
    ⟨some 40, none, .faddr 11 (.tmp 1)⟩,
    ⟨some 41, none, .load true 1 (.tmp 40)⟩,
    ⟨some 42, none, .faddr 11 (.tmp 3)⟩,
    ⟨none, none, .store 1 (.tmp 42) (.tmp 41)⟩]) (.seq (.reg [
    ⟨some 43, none, .faddr 12 (.tmp 1)⟩,
    ⟨some 44, none, .load true 1 (.tmp 43)⟩,
    ⟨some 45, none, .faddr 12 (.tmp 3)⟩,
    ⟨none, none, .store 1 (.tmp 45) (.tmp 44)⟩]) (.seq (.reg [
    ⟨some 46, none, .load false 13 (.tmp 3)⟩,
    ⟨none, none, .store 13 (.tmp 2) (.tmp 46)⟩]) (.ret))))))))))))))))
theorem t32 : Try.f32.body.bind (trC e32) = some c32 := by kernel_rfl
theorem r32 : Try.f32.results.toList.mapM (trR Try.prog) = some [.cell 2 false 13] := by kernel_rfl
theorem fn32 {args : List Value} {M : Mem} {post : Value → Mem → Prop} (hl : args.length ≤ 47) (h : VC e32 c32 (fnQ [.cell 2 false 13] post) (initS args 47) M) : Fn Try.prog 32 args M post :=
  Fn.of' (E := e32) Try.func32 t32 rfl r32 mixed hl h
/-! laws.szActS -/
noncomputable def e18 : Env := ⟨Try.prog, [], 12, []⟩
noncomputable def c18 : C :=
  .seq (.reg [
    ⟨some 4, none, .mov (.const (.int .i64 0))⟩]) (.seq (.reg [
    ⟨some 5, none, .mov (.tmp 1)⟩,
    ⟨some 6, none, .mov (.tmp 0)⟩,
    ⟨some 7, none, .lenS (.tmp 6)⟩,
    ⟨some 8, none, .bin .sub (.tmp 5) (.tmp 7)⟩,
    ⟨some 1, none, .mov (.tmp 8)⟩]) (.seq (.seq (.reg [
    ⟨some 9, none, .mov (.tmp 1)⟩,
    ⟨some 10, none, .bin .lss (.tmp 9) (.const (.int .i64 0))⟩]) (.cond (.tmp 10) (.seq (.reg [
    ⟨some 4, none, .mov (.const (.int .i64 (-1)))⟩]) (.ret)) (.skip))) (.seq (.reg [
    ⟨some 11, none, .mov (.tmp 1)⟩,
    ⟨some 4, none, .mov (.tmp 11)⟩]) (.ret))))
theorem t18 : Try.f18.body.bind (trC e18) = some c18 := by kernel_rfl
theorem r18 : Try.f18.results.toList.mapM (trR Try.prog) = some [.tmp 4] := by kernel_rfl
theorem fn18 {args : List Value} {M : Mem} {post : Value → Mem → Prop} (hl : args.length ≤ 12) (h : VC e18 c18 (fnQ [.tmp 4] post) (initS args 12) M) : Fn Try.prog 18 args M post :=
  Fn.of' (E := e18) Try.func18 t18 rfl r18 mixed hl h
/-! laws.toAct -/
noncomputable def e67 : Env := ⟨Try.prog, [1, 2, 3], 20, []⟩
noncomputable def c67 : C :=
  .seq (.reg [
    ⟨some 1, none, .box true (.tmp 0)⟩,
    ⟨some 2, none, .alloc true [.int .i64 0, .int .i64 0, .int .i64 0, .int .i64 0, .int .i64 0]⟩]) (.seq (.reg [
    ⟨some 3, none, .alloc true [.int .i64 0, .int .i64 0, .int .i64 0, .int .i64 0, .int .i64 0]⟩]) (.seq (.reg [
    ⟨some 4, none, .faddr 0 (.tmp 1)⟩,
    ⟨some 5, none, .load true 1 (.tmp 4)⟩,
    ⟨some 6, none, .faddr 0 (.tmp 3)⟩,
    ⟨none, none, .store 1 (.tmp 6) (.tmp 5)⟩]) (.seq (.reg [
    ⟨some 7, none, .faddr 1 (.tmp 1)⟩,
    ⟨some 8, none, .load true 1 (.tmp 7)⟩,
    ⟨some 9, none, .faddr 1 (.tmp 3)⟩,
    ⟨none, none, .store 1 (.tmp 9) (.tmp 8)⟩]) (.seq (.reg [
    ⟨some 10, none, .faddr 2 (.tmp 1)⟩,
    ⟨some 11, none, .load true 1 (.tmp 10)⟩,
    ⟨some 12, none, .faddr 2 (.tmp 3)⟩,
    ⟨none, none, .store 1 (.tmp 12) (.tmp 11)⟩]) (.seq (.reg [
    ⟨some 13, none, .faddr 3 (.tmp 1)⟩,
    ⟨some 14, none, .load true 1 (.tmp 13)⟩,
    ⟨some 15, none, .faddr 3 (.tmp 3)⟩,
    ⟨none, none, .store 1 (.tmp 15) (.tmp 14)⟩]) (.seq (.reg [
    ⟨some 16, none, .faddr 4 (.tmp 1)⟩,
    ⟨some 17, none, .load true 1 (.tmp 16)⟩,
    ⟨some 18, none, .faddr 4 (.tmp 3)⟩,
    ⟨none, none, .store 1 (.tmp 18) (.tmp 17)⟩]) (.seq (.reg [
    ⟨some 19, none, .load false 5 (.tmp 3)⟩,
    ⟨none, none, .store 5 (.tmp 2) (.tmp 19)⟩]) (.ret))))))))
theorem t67 : Try.f67.body.bind (trC e67) = some c67 := by kernel_rfl
theorem r67 : Try.f67.results.toList.mapM (trR Try.prog) = some [.cell 2 false 5] := by kernel_rfl
theorem fn67 {args : List Value} {M : Mem} {post : Value → Mem → Prop} (hl : args.length ≤ 20) (h : VC e67 c67 (fnQ [.cell 2 false 5] post) (initS args 20) M) : Fn Try.prog 67 args M post :=
  Fn.of' (E := e67) Try.func67 t67 rfl r67 mixed hl h
/-! laws.toActS -/
noncomputable def e20 : Env := ⟨Try.prog, [], 23, []⟩
noncomputable def c20 : C :=
  .seq (.reg [
    ⟨some 2, none, .mov (.const (.slice none 0 0))⟩]) (.seq (.reg [
    ⟨some 5, none, .mov (.tmp 0)⟩,
    ⟨some 6, none, .lenS (.tmp 5)⟩,
    ⟨some 7, none, .mkslice 5 40 [.int .i64 0, .int .i64 0, .int .i64 0, .int .i64 0, .int .i64 0] (.tmp 6) (.tmp 6)⟩,
    ⟨some 3, none, .mov (.tmp 7)⟩]) (.seq (.seq (.reg [
    ⟨some 4, none, .mov (.const (.int .i64 0))⟩]) (.block 0 (.loop (.seq (.seq (.reg [
    ⟨some 8, none, .mov (.tmp 4)⟩,
    ⟨some 9, none, .mov (.tmp 0)⟩,
    ⟨some 10, none, .lenS (.tmp 9)⟩,
    ⟨some 11, none, .bin .lss (.tmp 8) (.tmp 10)⟩]) (.cond (.tmp 11) (.skip) (.exit 0))) (.seq (.block 1 (.reg [
    ⟨some 14, none, .mov (.tmp 3)⟩,
    ⟨some 15, none, .mov (.tmp 4)⟩,
    ⟨some 16, none, .mov (.tmp 0)⟩,
    ⟨some 17, none, .mov (.tmp 4)⟩,
    ⟨some 18, none, .iaddr 5 (.tmp 16) (.tmp 17)⟩,
    ⟨some 19, none, .load false 5 (.tmp 18)⟩,
    ⟨some 20, none, .call 67 [.tmp 19]⟩,
    ⟨some 21, none, .iaddr 5 (.tmp 14) (.tmp 15)⟩,
    ⟨none, none, .store 5 (.tmp 21) (.tmp 20)⟩])) (.reg [
    ⟨some 12, none, .mov (.tmp 4)⟩,
    ⟨some 13, none, .bin .add (.tmp 12) (.const (.int .i64 1))⟩,
    ⟨some 4, none, .mov (.tmp 13)⟩])))))) (.seq (.reg [
    ⟨some 22, none, .mov (.tmp 3)⟩,
    ⟨some 2, none, .mov (.tmp 22)⟩]) (.ret))))
theorem t20 : Try.f20.body.bind (trC e20) = some c20 := by kernel_rfl
theorem r20 : Try.f20.results.toList.mapM (trR Try.prog) = some [.tmp 2] := by kernel_rfl
theorem fn20 {args : List Value} {M : Mem} {post : Value → Mem → Prop} (hl : args.length ≤ 23) (h : VC e20 c20 (fnQ [.tmp 2] post) (initS args 23) M) : Fn Try.prog 20 args M post :=
  Fn.of' (E := e20) Try.func20 t20 rfl r20 mixed hl h
end Go.Proofs.Ytcmllambknfleaa.E
/- The laws' sizes and copies of words, pairs, cells, heaps. Conditions: none. -/
set_option linter.unusedVariables false
set_option linter.unusedSimpArgs false
set_option maxRecDepth 100000
namespace Go.Proofs.Ytcmllambknfleaa.E
open Go
open Classical
theorem szWordS_q {M : Mem} {va : Value} {xs : List Word} {l : Int} (h0 : 0 ≤ l) (h1 : l ≤ 1048576) (ha : SlR M 3 wv va xs) : Qt Try.prog 81 [va, .int .i64 l] M (.int .i64 (if (xs.length : Int) ≤ l then l - xs.length else -1)) := by
  obtain ⟨aa, ca, ea⟩ := ha.len
  have hbd := ha.bound
  refine fn81 (by simp) ?_
  subst ea
  repeat' (first
    | (refine vl_add rfl rfl (by omega) ?_)
    | (refine vl_sub rfl rfl (by omega) ?_)
    | (refine vl_mul rfl rfl (by omega) ?_)
    | (refine vl_pure rfl ?_)
    | (refine vl_gy rfl rfl ?_)
    | (refine vl_gn rfl rfl ?_)
    | (refine vl_gu rfl ?_)
    | (refine vl_nil ?_)
    | (refine VC.seq ?_)
    | (refine VC.regV ?_)
    | (refine vl_idx rfl rfl (by omega) ?_)
    | (refine vl_alloc ?_)
    | (refine vl_stw rfl rfl rfl rfl (by first | rfl | assumption) (Nat.le_of_ble_eq_true rfl) ?_)
    | (refine sk_zero ?_)
    | (refine sk_succ ?_)
    | (refine wk_nil ?_)
    | (refine wk_cons ?_)
    | (refine vl_box rfl rfl ?_)
    | (refine vl_bsl rfl ?_)
    | (refine VC.dregV ?_)
    | (refine VC.block ?_)
    | (refine VC.ret ?_)
    | (refine VC.exit ?_)
    | (refine VC.skip ?_)
    | (refine seqQ_n ?_)
    | (refine seqQ_r ?_)
    | (refine seqQ_e ?_)
    | (refine blkQ_n ?_)
    | (refine blkQ_r ?_)
    | (refine blkQ_e ?_)
    | (refine blkQ_o rfl ?_)
    | (refine vl_gs rfl (fun hb => ?_) (fun hb => ?_))
    | (refine vl_ps rfl (fun hb => ?_) (fun hb => ?_))
    | (refine VC.cond _ rfl (fun hb => ?_) (fun hb => ?_)))
  all_goals (refine fnQ_r rfl (Mem.le_refl _) (q_end ?_))
  · have h : l - (xs.length : Int) < 0 := by simpa using hb
    rw [if_neg (by omega)]
  · have h : ¬ l - (xs.length : Int) < 0 := by simpa using hb
    rw [if_pos (by omega)]
theorem szPairS_q {M : Mem} {va : Value} {xs : List Pair} {l : Int} (h0 : 0 ≤ l) (h1 : l ≤ 1048576) (ha : SlR M 6 pv va xs) : Qt Try.prog 164 [va, .int .i64 l] M (.int .i64 (if (xs.length : Int) ≤ l then l - xs.length else -1)) := by
  obtain ⟨aa, ca, ea⟩ := ha.len
  have hbd := ha.bound
  refine fn164 (by simp) ?_
  subst ea
  repeat' (first
    | (refine vl_add rfl rfl (by omega) ?_)
    | (refine vl_sub rfl rfl (by omega) ?_)
    | (refine vl_mul rfl rfl (by omega) ?_)
    | (refine vl_pure rfl ?_)
    | (refine vl_gy rfl rfl ?_)
    | (refine vl_gn rfl rfl ?_)
    | (refine vl_gu rfl ?_)
    | (refine vl_nil ?_)
    | (refine VC.seq ?_)
    | (refine VC.regV ?_)
    | (refine vl_idx rfl rfl (by omega) ?_)
    | (refine vl_alloc ?_)
    | (refine vl_stw rfl rfl rfl rfl (by first | rfl | assumption) (Nat.le_of_ble_eq_true rfl) ?_)
    | (refine sk_zero ?_)
    | (refine sk_succ ?_)
    | (refine wk_nil ?_)
    | (refine wk_cons ?_)
    | (refine vl_box rfl rfl ?_)
    | (refine vl_bsl rfl ?_)
    | (refine VC.dregV ?_)
    | (refine VC.block ?_)
    | (refine VC.ret ?_)
    | (refine VC.exit ?_)
    | (refine VC.skip ?_)
    | (refine seqQ_n ?_)
    | (refine seqQ_r ?_)
    | (refine seqQ_e ?_)
    | (refine blkQ_n ?_)
    | (refine blkQ_r ?_)
    | (refine blkQ_e ?_)
    | (refine blkQ_o rfl ?_)
    | (refine vl_gs rfl (fun hb => ?_) (fun hb => ?_))
    | (refine vl_ps rfl (fun hb => ?_) (fun hb => ?_))
    | (refine VC.cond _ rfl (fun hb => ?_) (fun hb => ?_)))
  all_goals (refine fnQ_r rfl (Mem.le_refl _) (q_end ?_))
  · have h : l - (xs.length : Int) < 0 := by simpa using hb
    rw [if_neg (by omega)]
  · have h : ¬ l - (xs.length : Int) < 0 := by simpa using hb
    rw [if_pos (by omega)]
theorem szIntS_q {M : Mem} {va : Value} {xs : List Int} {l : Int} (h0 : 0 ≤ l) (h1 : l ≤ 1048576) (ha : SlR M 1 iv va xs) : Qt Try.prog 83 [va, .int .i64 l] M (.int .i64 (if (xs.length : Int) ≤ l then l - xs.length else -1)) := by
  obtain ⟨aa, ca, ea⟩ := ha.len
  have hbd := ha.bound
  refine fn83 (by simp) ?_
  subst ea
  repeat' (first
    | (refine vl_add rfl rfl (by omega) ?_)
    | (refine vl_sub rfl rfl (by omega) ?_)
    | (refine vl_mul rfl rfl (by omega) ?_)
    | (refine vl_pure rfl ?_)
    | (refine vl_gy rfl rfl ?_)
    | (refine vl_gn rfl rfl ?_)
    | (refine vl_gu rfl ?_)
    | (refine vl_nil ?_)
    | (refine VC.seq ?_)
    | (refine VC.regV ?_)
    | (refine vl_idx rfl rfl (by omega) ?_)
    | (refine vl_alloc ?_)
    | (refine vl_stw rfl rfl rfl rfl (by first | rfl | assumption) (Nat.le_of_ble_eq_true rfl) ?_)
    | (refine sk_zero ?_)
    | (refine sk_succ ?_)
    | (refine wk_nil ?_)
    | (refine wk_cons ?_)
    | (refine vl_box rfl rfl ?_)
    | (refine vl_bsl rfl ?_)
    | (refine VC.dregV ?_)
    | (refine VC.block ?_)
    | (refine VC.ret ?_)
    | (refine VC.exit ?_)
    | (refine VC.skip ?_)
    | (refine seqQ_n ?_)
    | (refine seqQ_r ?_)
    | (refine seqQ_e ?_)
    | (refine blkQ_n ?_)
    | (refine blkQ_r ?_)
    | (refine blkQ_e ?_)
    | (refine blkQ_o rfl ?_)
    | (refine vl_gs rfl (fun hb => ?_) (fun hb => ?_))
    | (refine vl_ps rfl (fun hb => ?_) (fun hb => ?_))
    | (refine VC.cond _ rfl (fun hb => ?_) (fun hb => ?_)))
  all_goals (refine fnQ_r rfl (Mem.le_refl _) (q_end ?_))
  · have h : l - (xs.length : Int) < 0 := by simpa using hb
    rw [if_neg (by omega)]
  · have h : ¬ l - (xs.length : Int) < 0 := by simpa using hb
    rw [if_pos (by omega)]
theorem szActS_q {M : Mem} {va : Value} {xs : List Act} {l : Int} (h0 : 0 ≤ l) (h1 : l ≤ 1048576) (ha : SlR M 5 av va xs) : Qt Try.prog 18 [va, .int .i64 l] M (.int .i64 (if (xs.length : Int) ≤ l then l - xs.length else -1)) := by
  obtain ⟨aa, ca, ea⟩ := ha.len
  have hbd := ha.bound
  refine fn18 (by simp) ?_
  subst ea
  repeat' (first
    | (refine vl_add rfl rfl (by omega) ?_)
    | (refine vl_sub rfl rfl (by omega) ?_)
    | (refine vl_mul rfl rfl (by omega) ?_)
    | (refine vl_pure rfl ?_)
    | (refine vl_gy rfl rfl ?_)
    | (refine vl_gn rfl rfl ?_)
    | (refine vl_gu rfl ?_)
    | (refine vl_nil ?_)
    | (refine VC.seq ?_)
    | (refine VC.regV ?_)
    | (refine vl_idx rfl rfl (by omega) ?_)
    | (refine vl_alloc ?_)
    | (refine vl_stw rfl rfl rfl rfl (by first | rfl | assumption) (Nat.le_of_ble_eq_true rfl) ?_)
    | (refine sk_zero ?_)
    | (refine sk_succ ?_)
    | (refine wk_nil ?_)
    | (refine wk_cons ?_)
    | (refine vl_box rfl rfl ?_)
    | (refine vl_bsl rfl ?_)
    | (refine VC.dregV ?_)
    | (refine VC.block ?_)
    | (refine VC.ret ?_)
    | (refine VC.exit ?_)
    | (refine VC.skip ?_)
    | (refine seqQ_n ?_)
    | (refine seqQ_r ?_)
    | (refine seqQ_e ?_)
    | (refine blkQ_n ?_)
    | (refine blkQ_r ?_)
    | (refine blkQ_e ?_)
    | (refine blkQ_o rfl ?_)
    | (refine vl_gs rfl (fun hb => ?_) (fun hb => ?_))
    | (refine vl_ps rfl (fun hb => ?_) (fun hb => ?_))
    | (refine VC.cond _ rfl (fun hb => ?_) (fun hb => ?_)))
  all_goals (refine fnQ_r rfl (Mem.le_refl _) (q_end ?_))
  · have h : l - (xs.length : Int) < 0 := by simpa using hb
    rw [if_neg (by omega)]
  · have h : ¬ l - (xs.length : Int) < 0 := by simpa using hb
    rw [if_pos (by omega)]

theorem szCell_q {M : Mem} {x : CS} {l : Int} (h0 : 0 ≤ l) (h1 : l ≤ 1048576) (ha : SlR M 6 pv x.s x.c.pairs) : Qt Try.prog 133 [ca x, .int .i64 l] M (.int .i64 (if (x.c.pairs.length : Int) ≤ l then l - x.c.pairs.length else -1)) := by
  refine fn133 (by simp) ?_
  repeat' (first
    | (refine vl_add rfl rfl (by omega) ?_)
    | (refine vl_sub rfl rfl (by omega) ?_)
    | (refine vl_mul rfl rfl (by omega) ?_)
    | (refine vl_pure rfl ?_)
    | (refine vl_gy rfl rfl ?_)
    | (refine vl_gn rfl rfl ?_)
    | (refine vl_gu rfl ?_)
    | (refine vl_nil ?_)
    | (refine VC.seq ?_)
    | (refine VC.regV ?_)
    | (refine vl_idx rfl rfl (by omega) ?_)
    | (refine vl_alloc ?_)
    | (refine vl_stw rfl rfl rfl rfl (by first | rfl | assumption) (Nat.le_of_ble_eq_true rfl) ?_)
    | (refine sk_zero ?_)
    | (refine sk_succ ?_)
    | (refine wk_nil ?_)
    | (refine wk_cons ?_)
    | (refine vl_box rfl rfl ?_)
    | (refine vl_bsl rfl ?_)
    | (refine vl_q rfl (szPairS_q h0 h1 ha) ?_)
    | (refine vl_cq rfl (szPairS_q h0 h1 ha) ?_)
    | (refine VC.dregV ?_)
    | (refine VC.block ?_)
    | (refine VC.ret ?_)
    | (refine VC.exit ?_)
    | (refine VC.skip ?_)
    | (refine seqQ_n ?_)
    | (refine seqQ_r ?_)
    | (refine seqQ_e ?_)
    | (refine blkQ_n ?_)
    | (refine blkQ_r ?_)
    | (refine blkQ_e ?_)
    | (refine blkQ_o rfl ?_)
    | (refine vl_gs rfl (fun hb => ?_) (fun hb => ?_))
    | (refine vl_ps rfl (fun hb => ?_) (fun hb => ?_))
    | (refine VC.cond _ rfl (fun hb => ?_) (fun hb => ?_)))
  all_goals (refine fnQ_r rfl (Mem.le_refl _) (q_end ?_))
  · by_cases h : (x.c.pairs.length : Int) ≤ l
    · rw [if_pos h] at hb; simp at hb; omega
    · rw [if_neg h]
  · rfl
/-- how many pairs some cells have -/
def pairsN (cs : List Cell) : Int := (cs.map fun c => (c.pairs.length : Int)).sum
theorem pairsN_nonneg (cs : List Cell) : 0 ≤ pairsN cs := by
  unfold pairsN
  induction cs with
  | nil => simp
  | cons c r ih => simp only [List.map_cons, List.sum_cons]; omega
theorem pairsN_take {cs : List Cell} {i : Nat} {c : Cell} (h : cs[i]? = some c) : pairsN (cs.take (i + 1)) = pairsN (cs.take i) + c.pairs.length := by
  unfold pairsN
  rw [List.take_add_one, h, List.map_append, List.sum_append]; simp
theorem pairsN_le (cs : List Cell) (i : Nat) : pairsN (cs.take i) ≤ pairsN cs := by
  have h : pairsN cs = pairsN (cs.take i) + pairsN (cs.drop i) := by
    unfold pairsN
    rw [← List.sum_append, ← List.map_append, List.take_append_drop]
  have := pairsN_nonneg (cs.drop i)
  omega
theorem szCellS_q {M : Mem} {va : Value} {xs : List CS} {l : Int} (h0 : 0 ≤ l) (h1 : l ≤ 1048576) (ha : SlR M 8 csv va xs) (hx : ∀ x, x ∈ xs → SlR M 6 pv x.s x.c.pairs) :
    Qt Try.prog 82 [va, .int .i64 l] M (.int .i64 (if (xs.length : Int) + pairsN (xs.map (·.c)) ≤ l then l - (xs.length + pairsN (xs.map (·.c))) else -1)) := by
  obtain ⟨aa, ca, ea⟩ := ha.len
  have hbd := ha.bound
  have hnn := pairsN_nonneg (xs.map (·.c))
  refine fn82 (by simp) ?_
  subst ea
  repeat' (first
    | (refine vl_add rfl rfl (by omega) ?_)
    | (refine vl_sub rfl rfl (by omega) ?_)
    | (refine vl_mul rfl rfl (by omega) ?_)
    | (refine vl_pure rfl ?_)
    | (refine vl_gy rfl rfl ?_)
    | (refine vl_gn rfl rfl ?_)
    | (refine vl_gu rfl ?_)
    | (refine vl_nil ?_)
    | (refine VC.seq ?_)
    | (refine VC.regV ?_)
    | (refine vl_idx rfl rfl (by omega) ?_)
    | (refine vl_alloc ?_)
    | (refine vl_stw rfl rfl rfl rfl (by first | rfl | assumption) (Nat.le_of_ble_eq_true rfl) ?_)
    | (refine sk_zero ?_)
    | (refine sk_succ ?_)
    | (refine wk_nil ?_)
    | (refine wk_cons ?_)
    | (refine vl_box rfl rfl ?_)
    | (refine vl_bsl rfl ?_)
    | (refine VC.dregV ?_)
    | (refine VC.block ?_)
    | (refine VC.ret ?_)
    | (refine VC.exit ?_)
    | (refine VC.skip ?_)
    | (refine seqQ_n ?_)
    | (refine seqQ_r ?_)
    | (refine seqQ_e ?_)
    | (refine blkQ_n ?_)
    | (refine blkQ_r ?_)
    | (refine blkQ_e ?_)
    | (refine blkQ_o rfl ?_)
    | (refine vl_gs rfl (fun hb => ?_) (fun hb => ?_))
    | (refine vl_ps rfl (fun hb => ?_) (fun hb => ?_)))
  refine VC.cond _ rfl (fun h => ?_) (fun h => ?_)
  · repeat' (first
      | (refine vl_add rfl rfl (by omega) ?_)
      | (refine vl_sub rfl rfl (by omega) ?_)
      | (refine vl_mul rfl rfl (by omega) ?_)
      | (refine vl_pure rfl ?_)
      | (refine vl_gy rfl rfl ?_)
      | (refine vl_gn rfl rfl ?_)
      | (refine vl_gu rfl ?_)
      | (refine vl_nil ?_)
      | (refine VC.seq ?_)
      | (refine VC.regV ?_)
      | (refine vl_idx rfl rfl (by omega) ?_)
      | (refine vl_alloc ?_)
      | (refine vl_stw rfl rfl rfl rfl (by first | rfl | assumption) (Nat.le_of_ble_eq_true rfl) ?_)
      | (refine sk_zero ?_)
      | (refine sk_succ ?_)
      | (refine wk_nil ?_)
      | (refine wk_cons ?_)
      | (refine vl_box rfl rfl ?_)
      | (refine vl_bsl rfl ?_)
      | (refine VC.dregV ?_)
      | (refine VC.block ?_)
      | (refine VC.ret ?_)
      | (refine VC.exit ?_)
      | (refine VC.skip ?_)
      | (refine seqQ_n ?_)
      | (refine seqQ_r ?_)
      | (refine seqQ_e ?_)
      | (refine blkQ_n ?_)
      | (refine blkQ_r ?_)
      | (refine blkQ_e ?_)
      | (refine blkQ_o rfl ?_)
      | (refine vl_gs rfl (fun hb => ?_) (fun hb => ?_))
      | (refine vl_ps rfl (fun hb => ?_) (fun hb => ?_))
      | (refine VC.cond _ rfl (fun hb => ?_) (fun hb => ?_)))
    refine fnQ_r rfl (Mem.le_refl _) (q_end ?_)
    have h : l - (xs.length : Int) < 0 := by simpa using h
    rw [if_neg (by omega)]
  have hl : ¬ l - (xs.length : Int) < 0 := by simpa using h
  repeat' (first
    | (refine vl_add rfl rfl (by omega) ?_)
    | (refine vl_sub rfl rfl (by omega) ?_)
    | (refine vl_mul rfl rfl (by omega) ?_)
    | (refine vl_pure rfl ?_)
    | (refine vl_gy rfl rfl ?_)
    | (refine vl_gn rfl rfl ?_)
    | (refine vl_gu rfl ?_)
    | (refine vl_nil ?_)
    | (refine VC.seq ?_)
    | (refine VC.regV ?_)
    | (refine vl_idx rfl rfl (by omega) ?_)
    | (refine vl_alloc ?_)
    | (refine vl_stw rfl rfl rfl rfl (by first | rfl | assumption) (Nat.le_of_ble_eq_true rfl) ?_)
    | (refine sk_zero ?_)
    | (refine sk_succ ?_)
    | (refine wk_nil ?_)
    | (refine wk_cons ?_)
    | (refine vl_box rfl rfl ?_)
    | (refine vl_bsl rfl ?_)
    | (refine VC.dregV ?_)
    | (refine VC.block ?_)
    | (refine VC.ret ?_)
    | (refine VC.exit ?_)
    | (refine VC.skip ?_)
    | (refine seqQ_n ?_)
    | (refine seqQ_r ?_)
    | (refine seqQ_e ?_)
    | (refine blkQ_n ?_)
    | (refine blkQ_r ?_)
    | (refine blkQ_e ?_)
    | (refine blkQ_o rfl ?_)
    | (refine vl_gs rfl (fun hb => ?_) (fun hb => ?_))
    | (refine vl_ps rfl (fun hb => ?_) (fun hb => ?_)))
  refine VC.loop (α := Nat × Int) (fun p => [(0, .v (.slice aa xs.length ca)), (1, .v (.int .i64 p.2)), (5, .v (.int .i64 p.1))]) (fun k p M' => k = xs.length - p.1 ∧ p.1 ≤ xs.length ∧ M' = M ∧ 0 ≤ p.2 ∧ p.2 = l - xs.length - pairsN ((xs.map (·.c)).take p.1))
    ⟨_, (0, _), M, ⟨rfl, rfl, rfl, trivial⟩, Mem.le_refl _, rfl, Nat.zero_le _, rfl, by dsimp only; omega, by simp [pairsN]⟩ ?_
  rintro k ⟨i, l'⟩ M' ⟨rfl, hi, rfl, hp, hpre⟩
  dsimp only at hi hp hpre ⊢
  repeat' (first
    | (refine vl_add rfl rfl (by omega) ?_)
    | (refine vl_sub rfl rfl (by omega) ?_)
    | (refine vl_mul rfl rfl (by omega) ?_)
    | (refine vl_pure rfl ?_)
    | (refine vl_gy rfl rfl ?_)
    | (refine vl_gn rfl rfl ?_)
    | (refine vl_gu rfl ?_)
    | (refine vl_nil ?_)
    | (refine VC.seq ?_)
    | (refine VC.regV ?_)
    | (refine vl_idx rfl rfl (by omega) ?_)
    | (refine vl_alloc ?_)
    | (refine vl_stw rfl rfl rfl rfl (by first | rfl | assumption) (Nat.le_of_ble_eq_true rfl) ?_)
    | (refine sk_zero ?_)
    | (refine sk_succ ?_)
    | (refine wk_nil ?_)
    | (refine wk_cons ?_)
    | (refine vl_box rfl rfl ?_)
    | (refine vl_bsl rfl ?_)
    | (refine VC.dregV ?_)
    | (refine VC.block ?_)
    | (refine VC.ret ?_)
    | (refine VC.exit ?_)
    | (refine VC.skip ?_)
    | (refine seqQ_n ?_)
    | (refine seqQ_r ?_)
    | (refine seqQ_e ?_)
    | (refine blkQ_n ?_)
    | (refine blkQ_r ?_)
    | (refine blkQ_e ?_)
    | (refine blkQ_o rfl ?_)
    | (refine vl_gs rfl (fun hb => ?_) (fun hb => ?_))
    | (refine vl_ps rfl (fun hb => ?_) (fun hb => ?_)))
  refine VC.cond _ rfl (fun h => ?_) (fun h => ?_)
  · have hi : i < xs.length := by simpa using h
    obtain ⟨x, gx⟩ : ∃ x, xs[i]? = some x := ⟨_, List.getElem?_eq_getElem hi⟩
    obtain ⟨b1, o1, rfl, c1⟩ := ha.at2 (fun _ => rfl) gx
    have hnt := pairsN_nonneg ((xs.map (·.c)).take i)
    have htk := pairsN_take (cs := xs.map (·.c)) (i := i) (c := x.c) (by rw [List.getElem?_map, gx]; rfl)
    have hle := pairsN_le (xs.map (·.c)) (i + 1)
    repeat' (first
      | (refine vl_add rfl rfl (by omega) ?_)
      | (refine vl_sub rfl rfl (by omega) ?_)
      | (refine vl_mul rfl rfl (by omega) ?_)
      | (refine vl_pure rfl ?_)
      | (refine vl_gy rfl rfl ?_)
      | (refine vl_gn rfl rfl ?_)
      | (refine vl_gu rfl ?_)
      | (refine vl_ld rfl (by first | exact c1) ?_)
      | (refine vl_nil ?_)
      | (refine VC.seq ?_)
      | (refine VC.regV ?_)
      | (refine vl_idx rfl rfl (by omega) ?_)
      | (refine vl_lds rfl (by first | exact c1) ?_)
      | (refine vl_alloc ?_)
      | (refine vl_stw rfl rfl rfl rfl (by first | rfl | assumption) (Nat.le_of_ble_eq_true rfl) ?_)
      | (refine sk_zero ?_)
      | (refine sk_succ ?_)
      | (refine wk_nil ?_)
      | (refine wk_cons ?_)
      | (refine vl_box rfl rfl ?_)
      | (refine vl_bsl rfl ?_)
      | (refine vl_q rfl (szCell_q (x := x) (l := l') hp (by omega) (hx _ (List.mem_of_getElem? gx))) ?_)
      | (refine vl_cq rfl (szCell_q (x := x) (l := l') hp (by omega) (hx _ (List.mem_of_getElem? gx))) ?_)
      | (refine VC.dregV ?_)
      | (refine VC.block ?_)
      | (refine VC.ret ?_)
      | (refine VC.exit ?_)
      | (refine VC.skip ?_)
      | (refine seqQ_n ?_)
      | (refine seqQ_r ?_)
      | (refine seqQ_e ?_)
      | (refine blkQ_n ?_)
      | (refine blkQ_r ?_)
      | (refine blkQ_e ?_)
      | (refine blkQ_o rfl ?_)
      | (refine vl_gs rfl (fun hb => ?_) (fun hb => ?_))
      | (refine vl_ps rfl (fun hb => ?_) (fun hb => ?_)))
    refine VC.cond _ rfl (fun h => ?_) (fun h => ?_)
    · repeat' (first
        | (refine vl_add rfl rfl (by omega) ?_)
        | (refine vl_sub rfl rfl (by omega) ?_)
        | (refine vl_mul rfl rfl (by omega) ?_)
        | (refine vl_pure rfl ?_)
        | (refine vl_gy rfl rfl ?_)
        | (refine vl_gn rfl rfl ?_)
        | (refine vl_gu rfl ?_)
        | (refine vl_nil ?_)
        | (refine VC.seq ?_)
        | (refine VC.regV ?_)
        | (refine vl_idx rfl rfl (by omega) ?_)
        | (refine vl_alloc ?_)
        | (refine vl_stw rfl rfl rfl rfl (by first | rfl | assumption) (Nat.le_of_ble_eq_true rfl) ?_)
        | (refine sk_zero ?_)
        | (refine sk_succ ?_)
        | (refine wk_nil ?_)
        | (refine wk_cons ?_)
        | (refine vl_box rfl rfl ?_)
        | (refine vl_bsl rfl ?_)
        | (refine VC.dregV ?_)
        | (refine VC.block ?_)
        | (refine VC.ret ?_)
        | (refine VC.exit ?_)
        | (refine VC.skip ?_)
        | (refine seqQ_n ?_)
        | (refine seqQ_r ?_)
        | (refine seqQ_e ?_)
        | (refine blkQ_n ?_)
        | (refine blkQ_r ?_)
        | (refine blkQ_e ?_)
        | (refine blkQ_o rfl ?_)
        | (refine vl_gs rfl (fun hb => ?_) (fun hb => ?_))
        | (refine vl_ps rfl (fun hb => ?_) (fun hb => ?_))
        | (refine VC.cond _ rfl (fun hb => ?_) (fun hb => ?_)))
      refine fnQ_r rfl (Mem.le_refl _) (q_end ?_)
      by_cases hq : (x.c.pairs.length : Int) ≤ l'
      · rw [if_pos hq] at h; simp at h; omega
      · rw [if_neg (by omega)]
    · by_cases hq : (x.c.pairs.length : Int) ≤ l'
      · rw [if_pos hq]
        repeat' (first
          | (refine vl_add rfl rfl (by omega) ?_)
          | (refine vl_sub rfl rfl (by omega) ?_)
          | (refine vl_mul rfl rfl (by omega) ?_)
          | (refine vl_pure rfl ?_)
          | (refine vl_gy rfl rfl ?_)
          | (refine vl_gn rfl rfl ?_)
          | (refine vl_gu rfl ?_)
          | (refine vl_nil ?_)
          | (refine VC.seq ?_)
          | (refine VC.regV ?_)
          | (refine vl_idx rfl rfl (by omega) ?_)
          | (refine vl_alloc ?_)
          | (refine vl_stw rfl rfl rfl rfl (by first | rfl | assumption) (Nat.le_of_ble_eq_true rfl) ?_)
          | (refine sk_zero ?_)
          | (refine sk_succ ?_)
          | (refine wk_nil ?_)
          | (refine wk_cons ?_)
          | (refine vl_box rfl rfl ?_)
          | (refine vl_bsl rfl ?_)
          | (refine VC.dregV ?_)
          | (refine VC.block ?_)
          | (refine VC.ret ?_)
          | (refine VC.exit ?_)
          | (refine VC.skip ?_)
          | (refine seqQ_n ?_)
          | (refine seqQ_r ?_)
          | (refine seqQ_e ?_)
          | (refine blkQ_n ?_)
          | (refine blkQ_r ?_)
          | (refine blkQ_e ?_)
          | (refine blkQ_o rfl ?_)
          | (refine vl_gs rfl (fun hb => ?_) (fun hb => ?_))
          | (refine vl_ps rfl (fun hb => ?_) (fun hb => ?_))
          | (refine VC.cond _ rfl (fun hb => ?_) (fun hb => ?_)))
        refine ⟨_, (i + 1, _), _, ?_, ⟨rfl, rfl, rfl, trivial⟩, Mem.le_refl _, rfl, hi, rfl, ?_, ?_⟩
        · dsimp only; omega
        · dsimp only; omega
        · dsimp only; omega
      · rw [if_neg hq] at h; simp at h
  · have hi : ¬ i < xs.length := by simpa using h
    repeat' (first
      | (refine vl_add rfl rfl (by omega) ?_)
      | (refine vl_sub rfl rfl (by omega) ?_)
      | (refine vl_mul rfl rfl (by omega) ?_)
      | (refine vl_pure rfl ?_)
      | (refine vl_gy rfl rfl ?_)
      | (refine vl_gn rfl rfl ?_)
      | (refine vl_gu rfl ?_)
      | (refine vl_nil ?_)
      | (refine VC.seq ?_)
      | (refine VC.regV ?_)
      | (refine vl_idx rfl rfl (by omega) ?_)
      | (refine vl_alloc ?_)
      | (refine vl_stw rfl rfl rfl rfl (by first | rfl | assumption) (Nat.le_of_ble_eq_true rfl) ?_)
      | (refine sk_zero ?_)
      | (refine sk_succ ?_)
      | (refine wk_nil ?_)
      | (refine wk_cons ?_)
      | (refine vl_box rfl rfl ?_)
      | (refine vl_bsl rfl ?_)
      | (refine VC.dregV ?_)
      | (refine VC.block ?_)
      | (refine VC.ret ?_)
      | (refine VC.exit ?_)
      | (refine VC.skip ?_)
      | (refine seqQ_n ?_)
      | (refine seqQ_r ?_)
      | (refine seqQ_e ?_)
      | (refine blkQ_n ?_)
      | (refine blkQ_r ?_)
      | (refine blkQ_e ?_)
      | (refine blkQ_o rfl ?_)
      | (refine vl_gs rfl (fun hb => ?_) (fun hb => ?_))
      | (refine vl_ps rfl (fun hb => ?_) (fun hb => ?_))
      | (refine VC.cond _ rfl (fun hb => ?_) (fun hb => ?_)))
    refine fnQ_r rfl (Mem.le_refl _) (q_end ?_)
    have e : i = xs.length := by omega
    rw [e, List.take_of_length_le (by simp)] at hpre
    rw [if_pos (by omega), hpre]
    congr 1; omega
theorem toWord_q {M : Mem} {a : Word} : Qt Try.prog 35 [wa a] M (wa a) := by
  refine fn35 (by simp) ?_
  repeat' (first
    | (refine vl_add rfl rfl (by omega) ?_)
    | (refine vl_sub rfl rfl (by omega) ?_)
    | (refine vl_mul rfl rfl (by omega) ?_)
    | (refine vl_pure rfl ?_)
    | (refine vl_gy rfl rfl ?_)
    | (refine vl_gn rfl rfl ?_)
    | (refine vl_gu rfl ?_)
    | (refine vl_nil ?_)
    | (refine VC.seq ?_)
    | (refine VC.regV ?_)
    | (refine vl_idx rfl rfl (by omega) ?_)
    | (refine vl_alloc ?_)
    | (refine vl_stw rfl rfl rfl rfl (by first | rfl | assumption) (Nat.le_of_ble_eq_true rfl) ?_)
    | (refine sk_zero ?_)
    | (refine sk_succ ?_)
    | (refine wk_nil ?_)
    | (refine wk_cons ?_)
    | (refine vl_box rfl rfl ?_)
    | (refine vl_bsl rfl ?_)
    | (refine VC.dregV ?_)
    | (refine VC.block ?_)
    | (refine VC.ret ?_)
    | (refine VC.exit ?_)
    | (refine VC.skip ?_)
    | (refine seqQ_n ?_)
    | (refine seqQ_r ?_)
    | (refine seqQ_e ?_)
    | (refine blkQ_n ?_)
    | (refine blkQ_r ?_)
    | (refine blkQ_e ?_)
    | (refine blkQ_o rfl ?_)
    | (refine vl_gs rfl (fun hb => ?_) (fun hb => ?_))
    | (refine vl_ps rfl (fun hb => ?_) (fun hb => ?_))
    | (refine VC.cond _ rfl (fun hb => ?_) (fun hb => ?_)))
  refine fnQ_r rfl (Mem.le_refl _) (q_end ?_)
  rfl
theorem toPair_q {M : Mem} {a : Pair} : Qt Try.prog 177 [pa a] M (pa a) := by
  refine fn177 (by simp) ?_
  repeat' (first
    | (refine vl_add rfl rfl (by omega) ?_)
    | (refine vl_sub rfl rfl (by omega) ?_)
    | (refine vl_mul rfl rfl (by omega) ?_)
    | (refine vl_pure rfl ?_)
    | (refine vl_gy rfl rfl ?_)
    | (refine vl_gn rfl rfl ?_)
    | (refine vl_gu rfl ?_)
    | (refine vl_nil ?_)
    | (refine VC.seq ?_)
    | (refine VC.regV ?_)
    | (refine vl_idx rfl rfl (by omega) ?_)
    | (refine vl_alloc ?_)
    | (refine vl_stw rfl rfl rfl rfl (by first | rfl | assumption) (Nat.le_of_ble_eq_true rfl) ?_)
    | (refine sk_zero ?_)
    | (refine sk_succ ?_)
    | (refine wk_nil ?_)
    | (refine wk_cons ?_)
    | (refine vl_box rfl rfl ?_)
    | (refine vl_bsl rfl ?_)
    | (refine vl_q rfl (toWord_q (a := a.key)) ?_)
    | (refine vl_cq rfl (toWord_q (a := a.key)) ?_)
    | (refine vl_q rfl (toWord_q (a := a.val)) ?_)
    | (refine vl_cq rfl (toWord_q (a := a.val)) ?_)
    | (refine VC.dregV ?_)
    | (refine VC.block ?_)
    | (refine VC.ret ?_)
    | (refine VC.exit ?_)
    | (refine VC.skip ?_)
    | (refine seqQ_n ?_)
    | (refine seqQ_r ?_)
    | (refine seqQ_e ?_)
    | (refine blkQ_n ?_)
    | (refine blkQ_r ?_)
    | (refine blkQ_e ?_)
    | (refine blkQ_o rfl ?_)
    | (refine vl_gs rfl (fun hb => ?_) (fun hb => ?_))
    | (refine vl_ps rfl (fun hb => ?_) (fun hb => ?_))
    | (refine VC.cond _ rfl (fun hb => ?_) (fun hb => ?_)))
  refine fnQ_r rfl (Mem.le_refl _) (q_end ?_)
  rfl
theorem toAct_q {M : Mem} {a : Act} : Qt Try.prog 67 [aa a] M (aa a) := by
  refine fn67 (by simp) ?_
  repeat' (first
    | (refine vl_add rfl rfl (by omega) ?_)
    | (refine vl_sub rfl rfl (by omega) ?_)
    | (refine vl_mul rfl rfl (by omega) ?_)
    | (refine vl_pure rfl ?_)
    | (refine vl_gy rfl rfl ?_)
    | (refine vl_gn rfl rfl ?_)
    | (refine vl_gu rfl ?_)
    | (refine vl_nil ?_)
    | (refine VC.seq ?_)
    | (refine VC.regV ?_)
    | (refine vl_idx rfl rfl (by omega) ?_)
    | (refine vl_alloc ?_)
    | (refine vl_stw rfl rfl rfl rfl (by first | rfl | assumption) (Nat.le_of_ble_eq_true rfl) ?_)
    | (refine sk_zero ?_)
    | (refine sk_succ ?_)
    | (refine wk_nil ?_)
    | (refine wk_cons ?_)
    | (refine vl_box rfl rfl ?_)
    | (refine vl_bsl rfl ?_)
    | (refine VC.dregV ?_)
    | (refine VC.block ?_)
    | (refine VC.ret ?_)
    | (refine VC.exit ?_)
    | (refine VC.skip ?_)
    | (refine seqQ_n ?_)
    | (refine seqQ_r ?_)
    | (refine seqQ_e ?_)
    | (refine blkQ_n ?_)
    | (refine blkQ_r ?_)
    | (refine blkQ_e ?_)
    | (refine blkQ_o rfl ?_)
    | (refine vl_gs rfl (fun hb => ?_) (fun hb => ?_))
    | (refine vl_ps rfl (fun hb => ?_) (fun hb => ?_))
    | (refine VC.cond _ rfl (fun hb => ?_) (fun hb => ?_)))
  refine fnQ_r rfl (Mem.le_refl _) (q_end ?_)
  rfl
/-- a row filled from the left -/
def fillL {α : Type} (z : α) (xs : List α) (i : Nat) : List α := xs.take i ++ List.replicate (xs.length - i) z
theorem fillL_zero {α : Type} (z : α) (xs : List α) : fillL z xs 0 = List.replicate xs.length z := by simp [fillL]
theorem fillL_all {α : Type} (z : α) (xs : List α) {i : Nat} (h : xs.length ≤ i) : fillL z xs i = xs := by
  unfold fillL; rw [List.take_of_length_le h, show xs.length - i = 0 by omega]; simp
theorem fillL_get {α : Type} {z : α} {xs : List α} {i : Nat} (h : i < xs.length) : (fillL z xs i)[i]? = some z := by
  unfold fillL
  rw [List.getElem?_append_right (by simp; omega), List.length_take, Nat.min_eq_left (by omega), Nat.sub_self]
  obtain ⟨n, hn⟩ : ∃ n, xs.length - i = n + 1 := ⟨xs.length - i - 1, by omega⟩
  rw [hn, List.replicate_succ, List.getElem?_cons_zero]
theorem fillL_set {α : Type} {z x : α} {xs : List α} {i : Nat} (h : xs[i]? = some x) : (fillL z xs i).set i x = fillL z xs (i + 1) := by
  have hi := (List.getElem?_eq_some_iff.1 h).1
  unfold fillL
  rw [List.set_append_right _ _ (by simp; omega), List.take_add_one, h]
  simp only [List.length_take, Nat.min_eq_left (Nat.le_of_lt hi), Nat.sub_self]
  obtain ⟨n, hn⟩ : ∃ n, xs.length - i = n + 1 := ⟨xs.length - i - 1, by omega⟩
  rw [hn, List.replicate_succ, List.set_cons_zero, show xs.length - (i + 1) = n by omega]
  simp
theorem fillL_len {α : Type} {z : α} {xs : List α} {i : Nat} (h : i ≤ xs.length) : (fillL z xs i).length = xs.length := by
  unfold fillL; simp; omega
theorem toWordS_f {M : Mem} {va : Value} {xs : List Word} (hn : xs.length ≤ 1048576) (ha : SlR M 3 wv va xs) : Fn Try.prog 92 [va] M (fun v M' => ∃ b, M b = none ∧ Off M b M' ∧ own v = [b] ∧ Sl M' 3 wv v xs) := by
  obtain ⟨aa, ca, ea⟩ := ha.len
  refine fn92 (by simp) ?_
  subst ea
  repeat' (first
    | (refine vl_add rfl rfl (by omega) ?_)
    | (refine vl_sub rfl rfl (by omega) ?_)
    | (refine vl_mul rfl rfl (by omega) ?_)
    | (refine vl_pure rfl ?_)
    | (refine vl_gy rfl rfl ?_)
    | (refine vl_gn rfl rfl ?_)
    | (refine vl_gu rfl ?_)
    | (refine vl_nil ?_)
    | (refine VC.seq ?_)
    | (refine VC.regV ?_)
    | (refine vl_idx rfl rfl (by omega) ?_)
    | (refine vl_alloc ?_)
    | (refine vl_stw rfl rfl rfl rfl (by first | rfl | assumption) (Nat.le_of_ble_eq_true rfl) ?_)
    | (refine sk_zero ?_)
    | (refine sk_succ ?_)
    | (refine wk_nil ?_)
    | (refine wk_cons ?_)
    | (refine vl_box rfl rfl ?_)
    | (refine vl_bsl rfl ?_)
    | (refine VC.dregV ?_)
    | (refine VC.block ?_)
    | (refine VC.ret ?_)
    | (refine VC.exit ?_)
    | (refine VC.skip ?_)
    | (refine seqQ_n ?_)
    | (refine seqQ_r ?_)
    | (refine seqQ_e ?_)
    | (refine blkQ_n ?_)
    | (refine blkQ_r ?_)
    | (refine blkQ_e ?_)
    | (refine blkQ_o rfl ?_)
    | (refine vl_gs rfl (fun hb => ?_) (fun hb => ?_))
    | (refine vl_ps rfl (fun hb => ?_) (fun hb => ?_))
    | (refine VC.cond _ rfl (fun hb => ?_) (fun hb => ?_)))
  refine vl_mks (f := wv) ⟨0, 0, 0⟩ (fun _ => rfl) rfl rfl rfl (Nat.le_refl _) (by omega) (by omega) (fun b M1 hMb hoff hsl => ?_)
  rw [← fillL_zero] at hsl
  repeat' (first
    | (refine vl_add rfl rfl (by omega) ?_)
    | (refine vl_sub rfl rfl (by omega) ?_)
    | (refine vl_mul rfl rfl (by omega) ?_)
    | (refine vl_pure rfl ?_)
    | (refine vl_gy rfl rfl ?_)
    | (refine vl_gn rfl rfl ?_)
    | (refine vl_gu rfl ?_)
    | (refine vl_nil ?_)
    | (refine VC.seq ?_)
    | (refine VC.regV ?_)
    | (refine vl_idx rfl rfl (by omega) ?_)
    | (refine vl_alloc ?_)
    | (refine vl_stw rfl rfl rfl rfl (by first | rfl | assumption) (Nat.le_of_ble_eq_true rfl) ?_)
    | (refine sk_zero ?_)
    | (refine sk_succ ?_)
    | (refine wk_nil ?_)
    | (refine wk_cons ?_)
    | (refine vl_box rfl rfl ?_)
    | (refine vl_bsl rfl ?_)
    | (refine VC.dregV ?_)
    | (refine VC.block ?_)
    | (refine VC.ret ?_)
    | (refine VC.exit ?_)
    | (refine VC.skip ?_)
    | (refine seqQ_n ?_)
    | (refine seqQ_r ?_)
    | (refine seqQ_e ?_)
    | (refine blkQ_n ?_)
    | (refine blkQ_r ?_)
    | (refine blkQ_e ?_)
    | (refine blkQ_o rfl ?_)
    | (refine vl_gs rfl (fun hb => ?_) (fun hb => ?_))
    | (refine vl_ps rfl (fun hb => ?_) (fun hb => ?_)))
  refine VC.loop (α := Nat) (fun i => [(0, .v (.slice aa xs.length ca)), (3, .v (.slice (some ⟨b, 0, none⟩) xs.length xs.length)), (4, .v (.int .i64 i))]) (fun k i M' => k = xs.length - i ∧ i ≤ xs.length ∧ Off M b M' ∧ Sl M' 3 wv (.slice (some ⟨b, 0, none⟩) xs.length xs.length) (fillL ⟨0, 0, 0⟩ xs i))
    ⟨_, 0, _, ⟨rfl, rfl, rfl, trivial⟩, Mem.le_refl _, rfl, Nat.zero_le _, hoff, hsl⟩ ?_
  rintro k i M2 ⟨rfl, hi, hoff, hsl⟩
  repeat' (first
    | (refine vl_add rfl rfl (by omega) ?_)
    | (refine vl_sub rfl rfl (by omega) ?_)
    | (refine vl_mul rfl rfl (by omega) ?_)
    | (refine vl_pure rfl ?_)
    | (refine vl_gy rfl rfl ?_)
    | (refine vl_gn rfl rfl ?_)
    | (refine vl_gu rfl ?_)
    | (refine vl_nil ?_)
    | (refine VC.seq ?_)
    | (refine VC.regV ?_)
    | (refine vl_idx rfl rfl (by omega) ?_)
    | (refine vl_alloc ?_)
    | (refine vl_stw rfl rfl rfl rfl (by first | rfl | assumption) (Nat.le_of_ble_eq_true rfl) ?_)
    | (refine sk_zero ?_)
    | (refine sk_succ ?_)
    | (refine wk_nil ?_)
    | (refine wk_cons ?_)
    | (refine vl_box rfl rfl ?_)
    | (refine vl_bsl rfl ?_)
    | (refine VC.dregV ?_)
    | (refine VC.block ?_)
    | (refine VC.ret ?_)
    | (refine VC.exit ?_)
    | (refine VC.skip ?_)
    | (refine seqQ_n ?_)
    | (refine seqQ_r ?_)
    | (refine seqQ_e ?_)
    | (refine blkQ_n ?_)
    | (refine blkQ_r ?_)
    | (refine blkQ_e ?_)
    | (refine blkQ_o rfl ?_)
    | (refine vl_gs rfl (fun hb => ?_) (fun hb => ?_))
    | (refine vl_ps rfl (fun hb => ?_) (fun hb => ?_)))
  refine VC.cond _ rfl (fun h => ?_) (fun h => ?_)
  · have hi : i < xs.length := by simpa using h
    obtain ⟨x, gx⟩ : ∃ x, xs[i]? = some x := ⟨_, List.getElem?_eq_getElem hi⟩
    obtain ⟨b1, o1, rfl, h1⟩ := (ha.le (hoff.le hMb)).at2 (fun _ => rfl) gx
    repeat' (first
      | (refine vl_add rfl rfl (by omega) ?_)
      | (refine vl_sub rfl rfl (by omega) ?_)
      | (refine vl_mul rfl rfl (by omega) ?_)
      | (refine vl_pure rfl ?_)
      | (refine vl_gy rfl rfl ?_)
      | (refine vl_gn rfl rfl ?_)
      | (refine vl_gu rfl ?_)
      | (refine vl_ld rfl (by first | exact h1) ?_)
      | (refine vl_nil ?_)
      | (refine VC.seq ?_)
      | (refine VC.regV ?_)
      | (refine vl_idx rfl rfl (by omega) ?_)
      | (refine vl_lds rfl (by first | exact h1) ?_)
      | (refine vl_alloc ?_)
      | (refine vl_stw rfl rfl rfl rfl (by first | rfl | assumption) (Nat.le_of_ble_eq_true rfl) ?_)
      | (refine sk_zero ?_)
      | (refine sk_succ ?_)
      | (refine wk_nil ?_)
      | (refine wk_cons ?_)
      | (refine vl_box rfl rfl ?_)
      | (refine vl_bsl rfl ?_)
      | (refine vl_q rfl (toWord_q) ?_)
      | (refine vl_cq rfl (toWord_q) ?_)
      | (refine VC.dregV ?_)
      | (refine VC.block ?_)
      | (refine VC.ret ?_)
      | (refine VC.exit ?_)
      | (refine VC.skip ?_)
      | (refine seqQ_n ?_)
      | (refine seqQ_r ?_)
      | (refine seqQ_e ?_)
      | (refine blkQ_n ?_)
      | (refine blkQ_r ?_)
      | (refine blkQ_e ?_)
      | (refine blkQ_o rfl ?_)
      | (refine vl_gs rfl (fun hb => ?_) (fun hb => ?_))
      | (refine vl_ps rfl (fun hb => ?_) (fun hb => ?_)))
    refine vl_sts x hsl (fun _ => rfl) (fillL_get hi) (i := i) (j := 0) rfl rfl rfl rfl (Nat.le_of_ble_eq_true rfl) rfl (fun M3 o3 s3 => ?_)
    rw [fillL_set gx] at s3
    repeat' (first
      | (refine vl_add rfl rfl (by omega) ?_)
      | (refine vl_sub rfl rfl (by omega) ?_)
      | (refine vl_mul rfl rfl (by omega) ?_)
      | (refine vl_pure rfl ?_)
      | (refine vl_gy rfl rfl ?_)
      | (refine vl_gn rfl rfl ?_)
      | (refine vl_gu rfl ?_)
      | (refine vl_nil ?_)
      | (refine VC.seq ?_)
      | (refine VC.regV ?_)
      | (refine vl_idx rfl rfl (by omega) ?_)
      | (refine vl_alloc ?_)
      | (refine vl_stw rfl rfl rfl rfl (by first | rfl | assumption) (Nat.le_of_ble_eq_true rfl) ?_)
      | (refine sk_zero ?_)
      | (refine sk_succ ?_)
      | (refine wk_nil ?_)
      | (refine wk_cons ?_)
      | (refine vl_box rfl rfl ?_)
      | (refine vl_bsl rfl ?_)
      | (refine VC.dregV ?_)
      | (refine VC.block ?_)
      | (refine VC.ret ?_)
      | (refine VC.exit ?_)
      | (refine VC.skip ?_)
      | (refine seqQ_n ?_)
      | (refine seqQ_r ?_)
      | (refine seqQ_e ?_)
      | (refine blkQ_n ?_)
      | (refine blkQ_r ?_)
      | (refine blkQ_e ?_)
      | (refine blkQ_o rfl ?_)
      | (refine vl_gs rfl (fun hb => ?_) (fun hb => ?_))
      | (refine vl_ps rfl (fun hb => ?_) (fun hb => ?_))
      | (refine VC.cond _ rfl (fun hb => ?_) (fun hb => ?_)))
    refine ⟨_, i + 1, _, ?_, ⟨rfl, rfl, rfl, trivial⟩, Mem.le_refl _, rfl, hi, hoff.trans o3, s3⟩
    omega
  · have hi : ¬ i < xs.length := by simpa using h
    repeat' (first
      | (refine vl_add rfl rfl (by omega) ?_)
      | (refine vl_sub rfl rfl (by omega) ?_)
      | (refine vl_mul rfl rfl (by omega) ?_)
      | (refine vl_pure rfl ?_)
      | (refine vl_gy rfl rfl ?_)
      | (refine vl_gn rfl rfl ?_)
      | (refine vl_gu rfl ?_)
      | (refine vl_nil ?_)
      | (refine VC.seq ?_)
      | (refine VC.regV ?_)
      | (refine vl_idx rfl rfl (by omega) ?_)
      | (refine vl_alloc ?_)
      | (refine vl_stw rfl rfl rfl rfl (by first | rfl | assumption) (Nat.le_of_ble_eq_true rfl) ?_)
      | (refine sk_zero ?_)
      | (refine sk_succ ?_)
      | (refine wk_nil ?_)
      | (refine wk_cons ?_)
      | (refine vl_box rfl rfl ?_)
      | (refine vl_bsl rfl ?_)
      | (refine VC.dregV ?_)
      | (refine VC.block ?_)
      | (refine VC.ret ?_)
      | (refine VC.exit ?_)
      | (refine VC.skip ?_)
      | (refine seqQ_n ?_)
      | (refine seqQ_r ?_)
      | (refine seqQ_e ?_)
      | (refine blkQ_n ?_)
      | (refine blkQ_r ?_)
      | (refine blkQ_e ?_)
      | (refine blkQ_o rfl ?_)
      | (refine vl_gs rfl (fun hb => ?_) (fun hb => ?_))
      | (refine vl_ps rfl (fun hb => ?_) (fun hb => ?_))
      | (refine VC.cond _ rfl (fun hb => ?_) (fun hb => ?_)))
    refine fnQ_r rfl (Mem.le_refl _) ⟨b, hMb, hoff, rfl, ?_⟩
    rwa [fillL_all _ _ (by omega)] at hsl
theorem toPairS_f {M : Mem} {va : Value} {xs : List Pair} (hn : xs.length ≤ 1048576) (ha : SlR M 6 pv va xs) : Fn Try.prog 165 [va] M (fun v M' => ∃ b, M b = none ∧ Off M b M' ∧ own v = [b] ∧ Sl M' 6 pv v xs) := by
  obtain ⟨aa, ca, ea⟩ := ha.len
  refine fn165 (by simp) ?_
  subst ea
  repeat' (first
    | (refine vl_add rfl rfl (by omega) ?_)
    | (refine vl_sub rfl rfl (by omega) ?_)
    | (refine vl_mul rfl rfl (by omega) ?_)
    | (refine vl_pure rfl ?_)
    | (refine vl_gy rfl rfl ?_)
    | (refine vl_gn rfl rfl ?_)
    | (refine vl_gu rfl ?_)
    | (refine vl_nil ?_)
    | (refine VC.seq ?_)
    | (refine VC.regV ?_)
    | (refine vl_idx rfl rfl (by omega) ?_)
    | (refine vl_alloc ?_)
    | (refine vl_stw rfl rfl rfl rfl (by first | rfl | assumption) (Nat.le_of_ble_eq_true rfl) ?_)
    | (refine sk_zero ?_)
    | (refine sk_succ ?_)
    | (refine wk_nil ?_)
    | (refine wk_cons ?_)
    | (refine vl_box rfl rfl ?_)
    | (refine vl_bsl rfl ?_)
    | (refine VC.dregV ?_)
    | (refine VC.block ?_)
    | (refine VC.ret ?_)
    | (refine VC.exit ?_)
    | (refine VC.skip ?_)
    | (refine seqQ_n ?_)
    | (refine seqQ_r ?_)
    | (refine seqQ_e ?_)
    | (refine blkQ_n ?_)
    | (refine blkQ_r ?_)
    | (refine blkQ_e ?_)
    | (refine blkQ_o rfl ?_)
    | (refine vl_gs rfl (fun hb => ?_) (fun hb => ?_))
    | (refine vl_ps rfl (fun hb => ?_) (fun hb => ?_))
    | (refine VC.cond _ rfl (fun hb => ?_) (fun hb => ?_)))
  refine vl_mks (f := pv) ⟨⟨0, 0, 0⟩, ⟨0, 0, 0⟩⟩ (fun _ => rfl) rfl rfl rfl (Nat.le_refl _) (by omega) (by omega) (fun b M1 hMb hoff hsl => ?_)
  rw [← fillL_zero] at hsl
  repeat' (first
    | (refine vl_add rfl rfl (by omega) ?_)
    | (refine vl_sub rfl rfl (by omega) ?_)
    | (refine vl_mul rfl rfl (by omega) ?_)
    | (refine vl_pure rfl ?_)
    | (refine vl_gy rfl rfl ?_)
    | (refine vl_gn rfl rfl ?_)
    | (refine vl_gu rfl ?_)
    | (refine vl_nil ?_)
    | (refine VC.seq ?_)
    | (refine VC.regV ?_)
    | (refine vl_idx rfl rfl (by omega) ?_)
    | (refine vl_alloc ?_)
    | (refine vl_stw rfl rfl rfl rfl (by first | rfl | assumption) (Nat.le_of_ble_eq_true rfl) ?_)
    | (refine sk_zero ?_)
    | (refine sk_succ ?_)
    | (refine wk_nil ?_)
    | (refine wk_cons ?_)
    | (refine vl_box rfl rfl ?_)
    | (refine vl_bsl rfl ?_)
    | (refine VC.dregV ?_)
    | (refine VC.block ?_)
    | (refine VC.ret ?_)
    | (refine VC.exit ?_)
    | (refine VC.skip ?_)
    | (refine seqQ_n ?_)
    | (refine seqQ_r ?_)
    | (refine seqQ_e ?_)
    | (refine blkQ_n ?_)
    | (refine blkQ_r ?_)
    | (refine blkQ_e ?_)
    | (refine blkQ_o rfl ?_)
    | (refine vl_gs rfl (fun hb => ?_) (fun hb => ?_))
    | (refine vl_ps rfl (fun hb => ?_) (fun hb => ?_)))
  refine VC.loop (α := Nat) (fun i => [(0, .v (.slice aa xs.length ca)), (3, .v (.slice (some ⟨b, 0, none⟩) xs.length xs.length)), (4, .v (.int .i64 i))]) (fun k i M' => k = xs.length - i ∧ i ≤ xs.length ∧ Off M b M' ∧ Sl M' 6 pv (.slice (some ⟨b, 0, none⟩) xs.length xs.length) (fillL ⟨⟨0, 0, 0⟩, ⟨0, 0, 0⟩⟩ xs i))
    ⟨_, 0, _, ⟨rfl, rfl, rfl, trivial⟩, Mem.le_refl _, rfl, Nat.zero_le _, hoff, hsl⟩ ?_
  rintro k i M2 ⟨rfl, hi, hoff, hsl⟩
  repeat' (first
    | (refine vl_add rfl rfl (by omega) ?_)
    | (refine vl_sub rfl rfl (by omega) ?_)
    | (refine vl_mul rfl rfl (by omega) ?_)
    | (refine vl_pure rfl ?_)
    | (refine vl_gy rfl rfl ?_)
    | (refine vl_gn rfl rfl ?_)
    | (refine vl_gu rfl ?_)
    | (refine vl_nil ?_)
    | (refine VC.seq ?_)
    | (refine VC.regV ?_)
    | (refine vl_idx rfl rfl (by omega) ?_)
    | (refine vl_alloc ?_)
    | (refine vl_stw rfl rfl rfl rfl (by first | rfl | assumption) (Nat.le_of_ble_eq_true rfl) ?_)
    | (refine sk_zero ?_)
    | (refine sk_succ ?_)
    | (refine wk_nil ?_)
    | (refine wk_cons ?_)
    | (refine vl_box rfl rfl ?_)
    | (refine vl_bsl rfl ?_)
    | (refine VC.dregV ?_)
    | (refine VC.block ?_)
    | (refine VC.ret ?_)
    | (refine VC.exit ?_)
    | (refine VC.skip ?_)
    | (refine seqQ_n ?_)
    | (refine seqQ_r ?_)
    | (refine seqQ_e ?_)
    | (refine blkQ_n ?_)
    | (refine blkQ_r ?_)
    | (refine blkQ_e ?_)
    | (refine blkQ_o rfl ?_)
    | (refine vl_gs rfl (fun hb => ?_) (fun hb => ?_))
    | (refine vl_ps rfl (fun hb => ?_) (fun hb => ?_)))
  refine VC.cond _ rfl (fun h => ?_) (fun h => ?_)
  · have hi : i < xs.length := by simpa using h
    obtain ⟨x, gx⟩ : ∃ x, xs[i]? = some x := ⟨_, List.getElem?_eq_getElem hi⟩
    obtain ⟨b1, o1, rfl, h1⟩ := (ha.le (hoff.le hMb)).at2 (fun _ => rfl) gx
    repeat' (first
      | (refine vl_add rfl rfl (by omega) ?_)
      | (refine vl_sub rfl rfl (by omega) ?_)
      | (refine vl_mul rfl rfl (by omega) ?_)
      | (refine vl_pure rfl ?_)
      | (refine vl_gy rfl rfl ?_)
      | (refine vl_gn rfl rfl ?_)
      | (refine vl_gu rfl ?_)
      | (refine vl_ld rfl (by first | exact h1) ?_)
      | (refine vl_nil ?_)
      | (refine VC.seq ?_)
      | (refine VC.regV ?_)
      | (refine vl_idx rfl rfl (by omega) ?_)
      | (refine vl_lds rfl (by first | exact h1) ?_)
      | (refine vl_alloc ?_)
      | (refine vl_stw rfl rfl rfl rfl (by first | rfl | assumption) (Nat.le_of_ble_eq_true rfl) ?_)
      | (refine sk_zero ?_)
      | (refine sk_succ ?_)
      | (refine wk_nil ?_)
      | (refine wk_cons ?_)
      | (refine vl_box rfl rfl ?_)
      | (refine vl_bsl rfl ?_)
      | (refine vl_q rfl (toPair_q) ?_)
      | (refine vl_cq rfl (toPair_q) ?_)
      | (refine VC.dregV ?_)
      | (refine VC.block ?_)
      | (refine VC.ret ?_)
      | (refine VC.exit ?_)
      | (refine VC.skip ?_)
      | (refine seqQ_n ?_)
      | (refine seqQ_r ?_)
      | (refine seqQ_e ?_)
      | (refine blkQ_n ?_)
      | (refine blkQ_r ?_)
      | (refine blkQ_e ?_)
      | (refine blkQ_o rfl ?_)
      | (refine vl_gs rfl (fun hb => ?_) (fun hb => ?_))
      | (refine vl_ps rfl (fun hb => ?_) (fun hb => ?_)))
    refine vl_sts x hsl (fun _ => rfl) (fillL_get hi) (i := i) (j := 0) rfl rfl rfl rfl (Nat.le_of_ble_eq_true rfl) rfl (fun M3 o3 s3 => ?_)
    rw [fillL_set gx] at s3
    repeat' (first
      | (refine vl_add rfl rfl (by omega) ?_)
      | (refine vl_sub rfl rfl (by omega) ?_)
      | (refine vl_mul rfl rfl (by omega) ?_)
      | (refine vl_pure rfl ?_)
      | (refine vl_gy rfl rfl ?_)
      | (refine vl_gn rfl rfl ?_)
      | (refine vl_gu rfl ?_)
      | (refine vl_nil ?_)
      | (refine VC.seq ?_)
      | (refine VC.regV ?_)
      | (refine vl_idx rfl rfl (by omega) ?_)
      | (refine vl_alloc ?_)
      | (refine vl_stw rfl rfl rfl rfl (by first | rfl | assumption) (Nat.le_of_ble_eq_true rfl) ?_)
      | (refine sk_zero ?_)
      | (refine sk_succ ?_)
      | (refine wk_nil ?_)
      | (refine wk_cons ?_)
      | (refine vl_box rfl rfl ?_)
      | (refine vl_bsl rfl ?_)
      | (refine VC.dregV ?_)
      | (refine VC.block ?_)
      | (refine VC.ret ?_)
      | (refine VC.exit ?_)
      | (refine VC.skip ?_)
      | (refine seqQ_n ?_)
      | (refine seqQ_r ?_)
      | (refine seqQ_e ?_)
      | (refine blkQ_n ?_)
      | (refine blkQ_r ?_)
      | (refine blkQ_e ?_)
      | (refine blkQ_o rfl ?_)
      | (refine vl_gs rfl (fun hb => ?_) (fun hb => ?_))
      | (refine vl_ps rfl (fun hb => ?_) (fun hb => ?_))
      | (refine VC.cond _ rfl (fun hb => ?_) (fun hb => ?_)))
    refine ⟨_, i + 1, _, ?_, ⟨rfl, rfl, rfl, trivial⟩, Mem.le_refl _, rfl, hi, hoff.trans o3, s3⟩
    omega
  · have hi : ¬ i < xs.length := by simpa using h
    repeat' (first
      | (refine vl_add rfl rfl (by omega) ?_)
      | (refine vl_sub rfl rfl (by omega) ?_)
      | (refine vl_mul rfl rfl (by omega) ?_)
      | (refine vl_pure rfl ?_)
      | (refine vl_gy rfl rfl ?_)
      | (refine vl_gn rfl rfl ?_)
      | (refine vl_gu rfl ?_)
      | (refine vl_nil ?_)
      | (refine VC.seq ?_)
      | (refine VC.regV ?_)
      | (refine vl_idx rfl rfl (by omega) ?_)
      | (refine vl_alloc ?_)
      | (refine vl_stw rfl rfl rfl rfl (by first | rfl | assumption) (Nat.le_of_ble_eq_true rfl) ?_)
      | (refine sk_zero ?_)
      | (refine sk_succ ?_)
      | (refine wk_nil ?_)
      | (refine wk_cons ?_)
      | (refine vl_box rfl rfl ?_)
      | (refine vl_bsl rfl ?_)
      | (refine VC.dregV ?_)
      | (refine VC.block ?_)
      | (refine VC.ret ?_)
      | (refine VC.exit ?_)
      | (refine VC.skip ?_)
      | (refine seqQ_n ?_)
      | (refine seqQ_r ?_)
      | (refine seqQ_e ?_)
      | (refine blkQ_n ?_)
      | (refine blkQ_r ?_)
      | (refine blkQ_e ?_)
      | (refine blkQ_o rfl ?_)
      | (refine vl_gs rfl (fun hb => ?_) (fun hb => ?_))
      | (refine vl_ps rfl (fun hb => ?_) (fun hb => ?_))
      | (refine VC.cond _ rfl (fun hb => ?_) (fun hb => ?_)))
    refine fnQ_r rfl (Mem.le_refl _) ⟨b, hMb, hoff, rfl, ?_⟩
    rwa [fillL_all _ _ (by omega)] at hsl
theorem toIntS_f {M : Mem} {va : Value} {xs : List Int} (hn : xs.length ≤ 1048576) (ha : SlR M 1 iv va xs) : Fn Try.prog 94 [va] M (fun v M' => ∃ b, M b = none ∧ Off M b M' ∧ own v = [b] ∧ Sl M' 1 iv v xs) := by
  obtain ⟨aa, ca, ea⟩ := ha.len
  refine fn94 (by simp) ?_
  subst ea
  repeat' (first
    | (refine vl_add rfl rfl (by omega) ?_)
    | (refine vl_sub rfl rfl (by omega) ?_)
    | (refine vl_mul rfl rfl (by omega) ?_)
    | (refine vl_pure rfl ?_)
    | (refine vl_gy rfl rfl ?_)
    | (refine vl_gn rfl rfl ?_)
    | (refine vl_gu rfl ?_)
    | (refine vl_nil ?_)
    | (refine VC.seq ?_)
    | (refine VC.regV ?_)
    | (refine vl_idx rfl rfl (by omega) ?_)
    | (refine vl_alloc ?_)
    | (refine vl_stw rfl rfl rfl rfl (by first | rfl | assumption) (Nat.le_of_ble_eq_true rfl) ?_)
    | (refine sk_zero ?_)
    | (refine sk_succ ?_)
    | (refine wk_nil ?_)
    | (refine wk_cons ?_)
    | (refine vl_box rfl rfl ?_)
    | (refine vl_bsl rfl ?_)
    | (refine VC.dregV ?_)
    | (refine VC.block ?_)
    | (refine VC.ret ?_)
    | (refine VC.exit ?_)
    | (refine VC.skip ?_)
    | (refine seqQ_n ?_)
    | (refine seqQ_r ?_)
    | (refine seqQ_e ?_)
    | (refine blkQ_n ?_)
    | (refine blkQ_r ?_)
    | (refine blkQ_e ?_)
    | (refine blkQ_o rfl ?_)
    | (refine vl_gs rfl (fun hb => ?_) (fun hb => ?_))
    | (refine vl_ps rfl (fun hb => ?_) (fun hb => ?_))
    | (refine VC.cond _ rfl (fun hb => ?_) (fun hb => ?_)))
  refine vl_mks (f := iv) 0 (fun _ => rfl) rfl rfl rfl (Nat.le_refl _) (by omega) (by omega) (fun b M1 hMb hoff hsl => ?_)
  rw [← fillL_zero] at hsl
  repeat' (first
    | (refine vl_add rfl rfl (by omega) ?_)
    | (refine vl_sub rfl rfl (by omega) ?_)
    | (refine vl_mul rfl rfl (by omega) ?_)
    | (refine vl_pure rfl ?_)
    | (refine vl_gy rfl rfl ?_)
    | (refine vl_gn rfl rfl ?_)
    | (refine vl_gu rfl ?_)
    | (refine vl_nil ?_)
    | (refine VC.seq ?_)
    | (refine VC.regV ?_)
    | (refine vl_idx rfl rfl (by omega) ?_)
    | (refine vl_alloc ?_)
    | (refine vl_stw rfl rfl rfl rfl (by first | rfl | assumption) (Nat.le_of_ble_eq_true rfl) ?_)
    | (refine sk_zero ?_)
    | (refine sk_succ ?_)
    | (refine wk_nil ?_)
    | (refine wk_cons ?_)
    | (refine vl_box rfl rfl ?_)
    | (refine vl_bsl rfl ?_)
    | (refine VC.dregV ?_)
    | (refine VC.block ?_)
    | (refine VC.ret ?_)
    | (refine VC.exit ?_)
    | (refine VC.skip ?_)
    | (refine seqQ_n ?_)
    | (refine seqQ_r ?_)
    | (refine seqQ_e ?_)
    | (refine blkQ_n ?_)
    | (refine blkQ_r ?_)
    | (refine blkQ_e ?_)
    | (refine blkQ_o rfl ?_)
    | (refine vl_gs rfl (fun hb => ?_) (fun hb => ?_))
    | (refine vl_ps rfl (fun hb => ?_) (fun hb => ?_)))
  refine VC.loop (α := Nat) (fun i => [(0, .v (.slice aa xs.length ca)), (3, .v (.slice (some ⟨b, 0, none⟩) xs.length xs.length)), (4, .v (.int .i64 i))]) (fun k i M' => k = xs.length - i ∧ i ≤ xs.length ∧ Off M b M' ∧ Sl M' 1 iv (.slice (some ⟨b, 0, none⟩) xs.length xs.length) (fillL 0 xs i))
    ⟨_, 0, _, ⟨rfl, rfl, rfl, trivial⟩, Mem.le_refl _, rfl, Nat.zero_le _, hoff, hsl⟩ ?_
  rintro k i M2 ⟨rfl, hi, hoff, hsl⟩
  repeat' (first
    | (refine vl_add rfl rfl (by omega) ?_)
    | (refine vl_sub rfl rfl (by omega) ?_)
    | (refine vl_mul rfl rfl (by omega) ?_)
    | (refine vl_pure rfl ?_)
    | (refine vl_gy rfl rfl ?_)
    | (refine vl_gn rfl rfl ?_)
    | (refine vl_gu rfl ?_)
    | (refine vl_nil ?_)
    | (refine VC.seq ?_)
    | (refine VC.regV ?_)
    | (refine vl_idx rfl rfl (by omega) ?_)
    | (refine vl_alloc ?_)
    | (refine vl_stw rfl rfl rfl rfl (by first | rfl | assumption) (Nat.le_of_ble_eq_true rfl) ?_)
    | (refine sk_zero ?_)
    | (refine sk_succ ?_)
    | (refine wk_nil ?_)
    | (refine wk_cons ?_)
    | (refine vl_box rfl rfl ?_)
    | (refine vl_bsl rfl ?_)
    | (refine VC.dregV ?_)
    | (refine VC.block ?_)
    | (refine VC.ret ?_)
    | (refine VC.exit ?_)
    | (refine VC.skip ?_)
    | (refine seqQ_n ?_)
    | (refine seqQ_r ?_)
    | (refine seqQ_e ?_)
    | (refine blkQ_n ?_)
    | (refine blkQ_r ?_)
    | (refine blkQ_e ?_)
    | (refine blkQ_o rfl ?_)
    | (refine vl_gs rfl (fun hb => ?_) (fun hb => ?_))
    | (refine vl_ps rfl (fun hb => ?_) (fun hb => ?_)))
  refine VC.cond _ rfl (fun h => ?_) (fun h => ?_)
  · have hi : i < xs.length := by simpa using h
    obtain ⟨x, gx⟩ : ∃ x, xs[i]? = some x := ⟨_, List.getElem?_eq_getElem hi⟩
    obtain ⟨b1, o1, rfl, h1⟩ := (ha.le (hoff.le hMb)).at2 (fun _ => rfl) gx
    repeat' (first
      | (refine vl_add rfl rfl (by omega) ?_)
      | (refine vl_sub rfl rfl (by omega) ?_)
      | (refine vl_mul rfl rfl (by omega) ?_)
      | (refine vl_pure rfl ?_)
      | (refine vl_gy rfl rfl ?_)
      | (refine vl_gn rfl rfl ?_)
      | (refine vl_gu rfl ?_)
      | (refine vl_ld rfl (by first | exact cells_cell h1 (j := 0) rfl) ?_)
      | (refine vl_nil ?_)
      | (refine VC.seq ?_)
      | (refine VC.regV ?_)
      | (refine vl_idx rfl rfl (by omega) ?_)
      | (refine vl_lds rfl (by first | exact cells_cell h1 (j := 0) rfl) ?_)
      | (refine vl_alloc ?_)
      | (refine vl_stw rfl rfl rfl rfl (by first | rfl | assumption) (Nat.le_of_ble_eq_true rfl) ?_)
      | (refine sk_zero ?_)
      | (refine sk_succ ?_)
      | (refine wk_nil ?_)
      | (refine wk_cons ?_)
      | (refine vl_box rfl rfl ?_)
      | (refine vl_bsl rfl ?_)
      | (refine VC.dregV ?_)
      | (refine VC.block ?_)
      | (refine VC.ret ?_)
      | (refine VC.exit ?_)
      | (refine VC.skip ?_)
      | (refine seqQ_n ?_)
      | (refine seqQ_r ?_)
      | (refine seqQ_e ?_)
      | (refine blkQ_n ?_)
      | (refine blkQ_r ?_)
      | (refine blkQ_e ?_)
      | (refine blkQ_o rfl ?_)
      | (refine vl_gs rfl (fun hb => ?_) (fun hb => ?_))
      | (refine vl_ps rfl (fun hb => ?_) (fun hb => ?_)))
    refine vl_sts x hsl (fun _ => rfl) (fillL_get hi) (i := i) (j := 0) rfl rfl rfl rfl (Nat.le_of_ble_eq_true rfl) rfl (fun M3 o3 s3 => ?_)
    rw [fillL_set gx] at s3
    repeat' (first
      | (refine vl_add rfl rfl (by omega) ?_)
      | (refine vl_sub rfl rfl (by omega) ?_)
      | (refine vl_mul rfl rfl (by omega) ?_)
      | (refine vl_pure rfl ?_)
      | (refine vl_gy rfl rfl ?_)
      | (refine vl_gn rfl rfl ?_)
      | (refine vl_gu rfl ?_)
      | (refine vl_nil ?_)
      | (refine VC.seq ?_)
      | (refine VC.regV ?_)
      | (refine vl_idx rfl rfl (by omega) ?_)
      | (refine vl_alloc ?_)
      | (refine vl_stw rfl rfl rfl rfl (by first | rfl | assumption) (Nat.le_of_ble_eq_true rfl) ?_)
      | (refine sk_zero ?_)
      | (refine sk_succ ?_)
      | (refine wk_nil ?_)
      | (refine wk_cons ?_)
      | (refine vl_box rfl rfl ?_)
      | (refine vl_bsl rfl ?_)
      | (refine VC.dregV ?_)
      | (refine VC.block ?_)
      | (refine VC.ret ?_)
      | (refine VC.exit ?_)
      | (refine VC.skip ?_)
      | (refine seqQ_n ?_)
      | (refine seqQ_r ?_)
      | (refine seqQ_e ?_)
      | (refine blkQ_n ?_)
      | (refine blkQ_r ?_)
      | (refine blkQ_e ?_)
      | (refine blkQ_o rfl ?_)
      | (refine vl_gs rfl (fun hb => ?_) (fun hb => ?_))
      | (refine vl_ps rfl (fun hb => ?_) (fun hb => ?_))
      | (refine VC.cond _ rfl (fun hb => ?_) (fun hb => ?_)))
    refine ⟨_, i + 1, _, ?_, ⟨rfl, rfl, rfl, trivial⟩, Mem.le_refl _, rfl, hi, hoff.trans o3, s3⟩
    omega
  · have hi : ¬ i < xs.length := by simpa using h
    repeat' (first
      | (refine vl_add rfl rfl (by omega) ?_)
      | (refine vl_sub rfl rfl (by omega) ?_)
      | (refine vl_mul rfl rfl (by omega) ?_)
      | (refine vl_pure rfl ?_)
      | (refine vl_gy rfl rfl ?_)
      | (refine vl_gn rfl rfl ?_)
      | (refine vl_gu rfl ?_)
      | (refine vl_nil ?_)
      | (refine VC.seq ?_)
      | (refine VC.regV ?_)
      | (refine vl_idx rfl rfl (by omega) ?_)
      | (refine vl_alloc ?_)
      | (refine vl_stw rfl rfl rfl rfl (by first | rfl | assumption) (Nat.le_of_ble_eq_true rfl) ?_)
      | (refine sk_zero ?_)
      | (refine sk_succ ?_)
      | (refine wk_nil ?_)
      | (refine wk_cons ?_)
      | (refine vl_box rfl rfl ?_)
      | (refine vl_bsl rfl ?_)
      | (refine VC.dregV ?_)
      | (refine VC.block ?_)
      | (refine VC.ret ?_)
      | (refine VC.exit ?_)
      | (refine VC.skip ?_)
      | (refine seqQ_n ?_)
      | (refine seqQ_r ?_)
      | (refine seqQ_e ?_)
      | (refine blkQ_n ?_)
      | (refine blkQ_r ?_)
      | (refine blkQ_e ?_)
      | (refine blkQ_o rfl ?_)
      | (refine vl_gs rfl (fun hb => ?_) (fun hb => ?_))
      | (refine vl_ps rfl (fun hb => ?_) (fun hb => ?_))
      | (refine VC.cond _ rfl (fun hb => ?_) (fun hb => ?_)))
    refine fnQ_r rfl (Mem.le_refl _) ⟨b, hMb, hoff, rfl, ?_⟩
    rwa [fillL_all _ _ (by omega)] at hsl
theorem toActS_f {M : Mem} {va : Value} {xs : List Act} (hn : xs.length ≤ 1048576) (ha : SlR M 5 av va xs) : Fn Try.prog 20 [va] M (fun v M' => ∃ b, M b = none ∧ Off M b M' ∧ own v = [b] ∧ Sl M' 5 av v xs) := by
  obtain ⟨aa, ca, ea⟩ := ha.len
  refine fn20 (by simp) ?_
  subst ea
  repeat' (first
    | (refine vl_add rfl rfl (by omega) ?_)
    | (refine vl_sub rfl rfl (by omega) ?_)
    | (refine vl_mul rfl rfl (by omega) ?_)
    | (refine vl_pure rfl ?_)
    | (refine vl_gy rfl rfl ?_)
    | (refine vl_gn rfl rfl ?_)
    | (refine vl_gu rfl ?_)
    | (refine vl_nil ?_)
    | (refine VC.seq ?_)
    | (refine VC.regV ?_)
    | (refine vl_idx rfl rfl (by omega) ?_)
    | (refine vl_alloc ?_)
    | (refine vl_stw rfl rfl rfl rfl (by first | rfl | assumption) (Nat.le_of_ble_eq_true rfl) ?_)
    | (refine sk_zero ?_)
    | (refine sk_succ ?_)
    | (refine wk_nil ?_)
    | (refine wk_cons ?_)
    | (refine vl_box rfl rfl ?_)
    | (refine vl_bsl rfl ?_)
    | (refine VC.dregV ?_)
    | (refine VC.block ?_)
    | (refine VC.ret ?_)
    | (refine VC.exit ?_)
    | (refine VC.skip ?_)
    | (refine seqQ_n ?_)
    | (refine seqQ_r ?_)
    | (refine seqQ_e ?_)
    | (refine blkQ_n ?_)
    | (refine blkQ_r ?_)
    | (refine blkQ_e ?_)
    | (refine blkQ_o rfl ?_)
    | (refine vl_gs rfl (fun hb => ?_) (fun hb => ?_))
    | (refine vl_ps rfl (fun hb => ?_) (fun hb => ?_))
    | (refine VC.cond _ rfl (fun hb => ?_) (fun hb => ?_)))
  refine vl_mks (f := av) ⟨0, 0, 0, 0, 0⟩ (fun _ => rfl) rfl rfl rfl (Nat.le_refl _) (by omega) (by omega) (fun b M1 hMb hoff hsl => ?_)
  rw [← fillL_zero] at hsl
  repeat' (first
    | (refine vl_add rfl rfl (by omega) ?_)
    | (refine vl_sub rfl rfl (by omega) ?_)
    | (refine vl_mul rfl rfl (by omega) ?_)
    | (refine vl_pure rfl ?_)
    | (refine vl_gy rfl rfl ?_)
    | (refine vl_gn rfl rfl ?_)
    | (refine vl_gu rfl ?_)
    | (refine vl_nil ?_)
    | (refine VC.seq ?_)
    | (refine VC.regV ?_)
    | (refine vl_idx rfl rfl (by omega) ?_)
    | (refine vl_alloc ?_)
    | (refine vl_stw rfl rfl rfl rfl (by first | rfl | assumption) (Nat.le_of_ble_eq_true rfl) ?_)
    | (refine sk_zero ?_)
    | (refine sk_succ ?_)
    | (refine wk_nil ?_)
    | (refine wk_cons ?_)
    | (refine vl_box rfl rfl ?_)
    | (refine vl_bsl rfl ?_)
    | (refine VC.dregV ?_)
    | (refine VC.block ?_)
    | (refine VC.ret ?_)
    | (refine VC.exit ?_)
    | (refine VC.skip ?_)
    | (refine seqQ_n ?_)
    | (refine seqQ_r ?_)
    | (refine seqQ_e ?_)
    | (refine blkQ_n ?_)
    | (refine blkQ_r ?_)
    | (refine blkQ_e ?_)
    | (refine blkQ_o rfl ?_)
    | (refine vl_gs rfl (fun hb => ?_) (fun hb => ?_))
    | (refine vl_ps rfl (fun hb => ?_) (fun hb => ?_)))
  refine VC.loop (α := Nat) (fun i => [(0, .v (.slice aa xs.length ca)), (3, .v (.slice (some ⟨b, 0, none⟩) xs.length xs.length)), (4, .v (.int .i64 i))]) (fun k i M' => k = xs.length - i ∧ i ≤ xs.length ∧ Off M b M' ∧ Sl M' 5 av (.slice (some ⟨b, 0, none⟩) xs.length xs.length) (fillL ⟨0, 0, 0, 0, 0⟩ xs i))
    ⟨_, 0, _, ⟨rfl, rfl, rfl, trivial⟩, Mem.le_refl _, rfl, Nat.zero_le _, hoff, hsl⟩ ?_
  rintro k i M2 ⟨rfl, hi, hoff, hsl⟩
  repeat' (first
    | (refine vl_add rfl rfl (by omega) ?_)
    | (refine vl_sub rfl rfl (by omega) ?_)
    | (refine vl_mul rfl rfl (by omega) ?_)
    | (refine vl_pure rfl ?_)
    | (refine vl_gy rfl rfl ?_)
    | (refine vl_gn rfl rfl ?_)
    | (refine vl_gu rfl ?_)
    | (refine vl_nil ?_)
    | (refine VC.seq ?_)
    | (refine VC.regV ?_)
    | (refine vl_idx rfl rfl (by omega) ?_)
    | (refine vl_alloc ?_)
    | (refine vl_stw rfl rfl rfl rfl (by first | rfl | assumption) (Nat.le_of_ble_eq_true rfl) ?_)
    | (refine sk_zero ?_)
    | (refine sk_succ ?_)
    | (refine wk_nil ?_)
    | (refine wk_cons ?_)
    | (refine vl_box rfl rfl ?_)
    | (refine vl_bsl rfl ?_)
    | (refine VC.dregV ?_)
    | (refine VC.block ?_)
    | (refine VC.ret ?_)
    | (refine VC.exit ?_)
    | (refine VC.skip ?_)
    | (refine seqQ_n ?_)
    | (refine seqQ_r ?_)
    | (refine seqQ_e ?_)
    | (refine blkQ_n ?_)
    | (refine blkQ_r ?_)
    | (refine blkQ_e ?_)
    | (refine blkQ_o rfl ?_)
    | (refine vl_gs rfl (fun hb => ?_) (fun hb => ?_))
    | (refine vl_ps rfl (fun hb => ?_) (fun hb => ?_)))
  refine VC.cond _ rfl (fun h => ?_) (fun h => ?_)
  · have hi : i < xs.length := by simpa using h
    obtain ⟨x, gx⟩ : ∃ x, xs[i]? = some x := ⟨_, List.getElem?_eq_getElem hi⟩
    obtain ⟨b1, o1, rfl, h1⟩ := (ha.le (hoff.le hMb)).at2 (fun _ => rfl) gx
    repeat' (first
      | (refine vl_add rfl rfl (by omega) ?_)
      | (refine vl_sub rfl rfl (by omega) ?_)
      | (refine vl_mul rfl rfl (by omega) ?_)
      | (refine vl_pure rfl ?_)
      | (refine vl_gy rfl rfl ?_)
      | (refine vl_gn rfl rfl ?_)
      | (refine vl_gu rfl ?_)
      | (refine vl_ld rfl (by first | exact h1) ?_)
      | (refine vl_nil ?_)
      | (refine VC.seq ?_)
      | (refine VC.regV ?_)
      | (refine vl_idx rfl rfl (by omega) ?_)
      | (refine vl_lds rfl (by first | exact h1) ?_)
      | (refine vl_alloc ?_)
      | (refine vl_stw rfl rfl rfl rfl (by first | rfl | assumption) (Nat.le_of_ble_eq_true rfl) ?_)
      | (refine sk_zero ?_)
      | (refine sk_succ ?_)
      | (refine wk_nil ?_)
      | (refine wk_cons ?_)
      | (refine vl_box rfl rfl ?_)
      | (refine vl_bsl rfl ?_)
      | (refine vl_q rfl (toAct_q) ?_)
      | (refine vl_cq rfl (toAct_q) ?_)
      | (refine VC.dregV ?_)
      | (refine VC.block ?_)
      | (refine VC.ret ?_)
      | (refine VC.exit ?_)
      | (refine VC.skip ?_)
      | (refine seqQ_n ?_)
      | (refine seqQ_r ?_)
      | (refine seqQ_e ?_)
      | (refine blkQ_n ?_)
      | (refine blkQ_r ?_)
      | (refine blkQ_e ?_)
      | (refine blkQ_o rfl ?_)
      | (refine vl_gs rfl (fun hb => ?_) (fun hb => ?_))
      | (refine vl_ps rfl (fun hb => ?_) (fun hb => ?_)))
    refine vl_sts x hsl (fun _ => rfl) (fillL_get hi) (i := i) (j := 0) rfl rfl rfl rfl (Nat.le_of_ble_eq_true rfl) rfl (fun M3 o3 s3 => ?_)
    rw [fillL_set gx] at s3
    repeat' (first
      | (refine vl_add rfl rfl (by omega) ?_)
      | (refine vl_sub rfl rfl (by omega) ?_)
      | (refine vl_mul rfl rfl (by omega) ?_)
      | (refine vl_pure rfl ?_)
      | (refine vl_gy rfl rfl ?_)
      | (refine vl_gn rfl rfl ?_)
      | (refine vl_gu rfl ?_)
      | (refine vl_nil ?_)
      | (refine VC.seq ?_)
      | (refine VC.regV ?_)
      | (refine vl_idx rfl rfl (by omega) ?_)
      | (refine vl_alloc ?_)
      | (refine vl_stw rfl rfl rfl rfl (by first | rfl | assumption) (Nat.le_of_ble_eq_true rfl) ?_)
      | (refine sk_zero ?_)
      | (refine sk_succ ?_)
      | (refine wk_nil ?_)
      | (refine wk_cons ?_)
      | (refine vl_box rfl rfl ?_)
      | (refine vl_bsl rfl ?_)
      | (refine VC.dregV ?_)
      | (refine VC.block ?_)
      | (refine VC.ret ?_)
      | (refine VC.exit ?_)
      | (refine VC.skip ?_)
      | (refine seqQ_n ?_)
      | (refine seqQ_r ?_)
      | (refine seqQ_e ?_)
      | (refine blkQ_n ?_)
      | (refine blkQ_r ?_)
      | (refine blkQ_e ?_)
      | (refine blkQ_o rfl ?_)
      | (refine vl_gs rfl (fun hb => ?_) (fun hb => ?_))
      | (refine vl_ps rfl (fun hb => ?_) (fun hb => ?_))
      | (refine VC.cond _ rfl (fun hb => ?_) (fun hb => ?_)))
    refine ⟨_, i + 1, _, ?_, ⟨rfl, rfl, rfl, trivial⟩, Mem.le_refl _, rfl, hi, hoff.trans o3, s3⟩
    omega
  · have hi : ¬ i < xs.length := by simpa using h
    repeat' (first
      | (refine vl_add rfl rfl (by omega) ?_)
      | (refine vl_sub rfl rfl (by omega) ?_)
      | (refine vl_mul rfl rfl (by omega) ?_)
      | (refine vl_pure rfl ?_)
      | (refine vl_gy rfl rfl ?_)
      | (refine vl_gn rfl rfl ?_)
      | (refine vl_gu rfl ?_)
      | (refine vl_nil ?_)
      | (refine VC.seq ?_)
      | (refine VC.regV ?_)
      | (refine vl_idx rfl rfl (by omega) ?_)
      | (refine vl_alloc ?_)
      | (refine vl_stw rfl rfl rfl rfl (by first | rfl | assumption) (Nat.le_of_ble_eq_true rfl) ?_)
      | (refine sk_zero ?_)
      | (refine sk_succ ?_)
      | (refine wk_nil ?_)
      | (refine wk_cons ?_)
      | (refine vl_box rfl rfl ?_)
      | (refine vl_bsl rfl ?_)
      | (refine VC.dregV ?_)
      | (refine VC.block ?_)
      | (refine VC.ret ?_)
      | (refine VC.exit ?_)
      | (refine VC.skip ?_)
      | (refine seqQ_n ?_)
      | (refine seqQ_r ?_)
      | (refine seqQ_e ?_)
      | (refine blkQ_n ?_)
      | (refine blkQ_r ?_)
      | (refine blkQ_e ?_)
      | (refine blkQ_o rfl ?_)
      | (refine vl_gs rfl (fun hb => ?_) (fun hb => ?_))
      | (refine vl_ps rfl (fun hb => ?_) (fun hb => ?_))
      | (refine VC.cond _ rfl (fun hb => ?_) (fun hb => ?_)))
    refine fnQ_r rfl (Mem.le_refl _) ⟨b, hMb, hoff, rfl, ?_⟩
    rwa [fillL_all _ _ (by omega)] at hsl

end Go.Proofs.Ytcmllambknfleaa.E
