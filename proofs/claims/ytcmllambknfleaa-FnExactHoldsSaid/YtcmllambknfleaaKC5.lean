/- The functions of the program in the engine's form, written by a program out of the loaded translation, and checked against it by the kernel. Conditions: none. -/
import Derived.Test.YtcmllambknfleaaKC4
set_option maxRecDepth 100000
set_option linter.unusedVariables false
namespace Go.Proofs.Ytcmllambknfleaa.E
open Go
/-! laws.szWordS -/
noncomputable def e81 : Env := ⟨Try.prog, [], 12, []⟩
noncomputable def c81 : C :=
  .seq (.reg [
    ⟨some 4, none, .mov (.const (.int .i64 0))⟩]) (.seq (.reg [
    ⟨some 5, none, .mov (.tmp 1)⟩,
    ⟨some 6, none, .mov (.tmp 0)⟩,
    ⟨some 7, none, .lenS (.tmp 6)⟩,
    ⟨some 8, none, .bin .sub (.tmp 5) (.tmp 7)⟩,
    ⟨some 1, none, .mov (.tmp 8)⟩]) (.seq (.seq (.reg [
    ⟨some 9, none, .mov (.tmp 1)⟩,
    ⟨some 10, none, .bin .lss (.tmp 9) (.const (.int .i64 0))⟩]) (.cond (.tmp 10) (.seq (.reg [
    ⟨some 4, none, .mov (.const (.int .i64 (-1)))⟩]) (.ret)) (.skip))) (.seq (.reg [
    ⟨some 11, none, .mov (.tmp 1)⟩,
    ⟨some 4, none, .mov (.tmp 11)⟩]) (.ret))))
theorem t81 : Try.f81.body.bind (trC e81) = some c81 := by kernel_rfl
theorem r81 : Try.f81.results.toList.mapM (trR Try.prog) = some [.tmp 4] := by kernel_rfl
theorem fn81 {args : List Value} {M : Mem} {post : Value → Mem → Prop} (hl : args.length ≤ 12) (h : VC e81 c81 (fnQ [.tmp 4] post) (initS args 12) M) : Fn Try.prog 81 args M post :=
  Fn.of' (E := e81) Try.func81 t81 rfl r81 mixed hl h
/-! laws.szPairS -/
noncomputable def e164 : Env := ⟨Try.prog, [], 12, []⟩
noncomputable def c164 : C :=
  .seq (.reg [
    ⟨some 4, none, .mov (.const (.int .i64 0))⟩]) (.seq (.reg [
    ⟨some 5, none, .mov (.tmp 1)⟩,
    ⟨some 6, none, .mov (.tmp 0)⟩,
    ⟨some 7, none, .lenS (.tmp 6)⟩,
    ⟨some 8, none, .bin .sub (.tmp 5) (.tmp 7)⟩,
    ⟨some 1, none, .mov (.tmp 8)⟩]) (.seq (.seq (.reg [
    ⟨some 9, none, .mov (.tmp 1)⟩,
    ⟨some 10, none, .bin .lss (.tmp 9) (.const (.int .i64 0))⟩]) (.cond (.tmp 10) (.seq (.reg [
    ⟨some 4, none, .mov (.const (.int .i64 (-1)))⟩]) (.ret)) (.skip))) (.seq (.reg [
    ⟨some 11, none, .mov (.tmp 1)⟩,
    ⟨some 4, none, .mov (.tmp 11)⟩]) (.ret))))
theorem t164 : Try.f164.body.bind (trC e164) = some c164 := by kernel_rfl
theorem r164 : Try.f164.results.toList.mapM (trR Try.prog) = some [.tmp 4] := by kernel_rfl
theorem fn164 {args : List Value} {M : Mem} {post : Value → Mem → Prop} (hl : args.length ≤ 12) (h : VC e164 c164 (fnQ [.tmp 4] post) (initS args 12) M) : Fn Try.prog 164 args M post :=
  Fn.of' (E := e164) Try.func164 t164 rfl r164 mixed hl h
/-! laws.szCell -/
noncomputable def e133 : Env := ⟨Try.prog, [2], 12, []⟩
noncomputable def c133 : C :=
  .seq (.reg [
    ⟨some 2, none, .box true (.tmp 0)⟩,
    ⟨some 4, none, .mov (.const (.int .i64 0))⟩]) (.seq (.reg [
    ⟨some 5, none, .faddr 7 (.tmp 2)⟩,
    ⟨some 6, none, .load true 1 (.tmp 5)⟩,
    ⟨some 7, none, .mov (.tmp 1)⟩,
    ⟨some 8, none, .call 164 [.tmp 6, .tmp 7]⟩,
    ⟨some 1, none, .mov (.tmp 8)⟩]) (.seq (.seq (.reg [
    ⟨some 9, none, .mov (.tmp 1)⟩,
    ⟨some 10, none, .bin .lss (.tmp 9) (.const (.int .i64 0))⟩]) (.cond (.tmp 10) (.seq (.reg [
    ⟨some 4, none, .mov (.const (.int .i64 (-1)))⟩]) (.ret)) (.skip))) (.seq (.reg [
    ⟨some 11, none, .mov (.tmp 1)⟩,
    ⟨some 4, none, .mov (.tmp 11)⟩]) (.ret))))
theorem t133 : Try.f133.body.bind (trC e133) = some c133 := by kernel_rfl
theorem r133 : Try.f133.results.toList.mapM (trR Try.prog) = some [.tmp 4] := by kernel_rfl
theorem fn133 {args : List Value} {M : Mem} {post : Value → Mem → Prop} (hl : args.length ≤ 12) (h : VC e133 c133 (fnQ [.tmp 4] post) (initS args 12) M) : Fn Try.prog 133 args M post :=
  Fn.of' (E := e133) Try.func133 t133 rfl r133 mixed hl h
/-! laws.szCellS -/
noncomputable def e82 : Env := ⟨Try.prog, [], 27, []⟩
noncomputable def c82 : C :=
  .seq (.reg [
    ⟨some 4, none, .mov (.const (.int .i64 0))⟩]) (.seq (.reg [
    ⟨some 6, none, .mov (.tmp 1)⟩,
    ⟨some 7, none, .mov (.tmp 0)⟩,
    ⟨some 8, none, .lenS (.tmp 7)⟩,
    ⟨some 9, none, .bin .sub (.tmp 6) (.tmp 8)⟩,
    ⟨some 1, none, .mov (.tmp 9)⟩]) (.seq (.seq (.reg [
    ⟨some 10, none, .mov (.tmp 1)⟩,
    ⟨some 11, none, .bin .lss (.tmp 10) (.const (.int .i64 0))⟩]) (.cond (.tmp 11) (.seq (.reg [
    ⟨some 4, none, .mov (.const (.int .i64 (-1)))⟩]) (.ret)) (.skip))) (.seq (.seq (.reg [
    ⟨some 5, none, .mov (.const (.int .i64 0))⟩]) (.block 0 (.loop (.seq (.seq (.reg [
    ⟨some 12, none, .mov (.tmp 5)⟩,
    ⟨some 13, none, .mov (.tmp 0)⟩,
    ⟨some 14, none, .lenS (.tmp 13)⟩,
    ⟨some 15, none, .bin .lss (.tmp 12) (.tmp 14)⟩]) (.cond (.tmp 15) (.skip) (.exit 0))) (.seq (.block 1 (.seq (.reg [
    ⟨some 18, none, .mov (.tmp 0)⟩,
    ⟨some 19, none, .mov (.tmp 5)⟩,
    ⟨some 20, none, .iaddr 8 (.tmp 18) (.tmp 19)⟩,
    ⟨some 21, none, .load false 8 (.tmp 20)⟩,
    ⟨some 22, none, .mov (.tmp 1)⟩,
    ⟨some 23, none, .call 133 [.tmp 21, .tmp 22]⟩,
    ⟨some 1, none, .mov (.tmp 23)⟩]) (.seq (.reg [
    ⟨some 24, none, .mov (.tmp 1)⟩,
    ⟨some 25, none, .bin .lss (.tmp 24) (.const (.int .i64 0))⟩]) (.cond (.tmp 25) (.seq (.reg [
    ⟨some 4, none, .mov (.const (.int .i64 (-1)))⟩]) (.ret)) (.skip))))) (.reg [
    ⟨some 16, none, .mov (.tmp 5)⟩,
    ⟨some 17, none, .bin .add (.tmp 16) (.const (.int .i64 1))⟩,
    ⟨some 5, none, .mov (.tmp 17)⟩])))))) (.seq (.reg [
    ⟨some 26, none, .mov (.tmp 1)⟩,
    ⟨some 4, none, .mov (.tmp 26)⟩]) (.ret)))))
theorem t82 : Try.f82.body.bind (trC e82) = some c82 := by kernel_rfl
theorem r82 : Try.f82.results.toList.mapM (trR Try.prog) = some [.tmp 4] := by kernel_rfl
theorem fn82 {args : List Value} {M : Mem} {post : Value → Mem → Prop} (hl : args.length ≤ 27) (h : VC e82 c82 (fnQ [.tmp 4] post) (initS args 27) M) : Fn Try.prog 82 args M post :=
  Fn.of' (E := e82) Try.func82 t82 rfl r82 mixed hl h
/-! laws.szIntS -/
noncomputable def e83 : Env := ⟨Try.prog, [], 12, []⟩
noncomputable def c83 : C :=
  .seq (.reg [
    ⟨some 4, none, .mov (.const (.int .i64 0))⟩]) (.seq (.reg [
    ⟨some 5, none, .mov (.tmp 1)⟩,
    ⟨some 6, none, .mov (.tmp 0)⟩,
    ⟨some 7, none, .lenS (.tmp 6)⟩,
    ⟨some 8, none, .bin .sub (.tmp 5) (.tmp 7)⟩,
    ⟨some 1, none, .mov (.tmp 8)⟩]) (.seq (.seq (.reg [
    ⟨some 9, none, .mov (.tmp 1)⟩,
    ⟨some 10, none, .bin .lss (.tmp 9) (.const (.int .i64 0))⟩]) (.cond (.tmp 10) (.seq (.reg [
    ⟨some 4, none, .mov (.const (.int .i64 (-1)))⟩]) (.ret)) (.skip))) (.seq (.reg [
    ⟨some 11, none, .mov (.tmp 1)⟩,
    ⟨some 4, none, .mov (.tmp 11)⟩]) (.ret))))
theorem t83 : Try.f83.body.bind (trC e83) = some c83 := by kernel_rfl
theorem r83 : Try.f83.results.toList.mapM (trR Try.prog) = some [.tmp 4] := by kernel_rfl
theorem fn83 {args : List Value} {M : Mem} {post : Value → Mem → Prop} (hl : args.length ≤ 12) (h : VC e83 c83 (fnQ [.tmp 4] post) (initS args 12) M) : Fn Try.prog 83 args M post :=
  Fn.of' (E := e83) Try.func83 t83 rfl r83 mixed hl h
/-! laws.szHeap -/
noncomputable def e30 : Env := ⟨Try.prog, [2], 24, []⟩
noncomputable def c30 : C :=
  .seq (.reg [
    ⟨some 2, none, .box true (.tmp 0)⟩,
    ⟨some 4, none, .mov (.const (.int .i64 0))⟩]) (.seq (.reg [
    ⟨some 5, none, .faddr 3 (.tmp 2)⟩,
    ⟨some 6, none, .load true 1 (.tmp 5)⟩,
    ⟨some 7, none, .mov (.tmp 1)⟩,
    ⟨some 8, none, .call 81 [.tmp 6, .tmp 7]⟩,
    ⟨some 1, none, .mov (.tmp 8)⟩]) (.seq (.seq (.reg [
    ⟨some 9, none, .mov (.tmp 1)⟩,
    ⟨some 10, none, .bin .lss (.tmp 9) (.const (.int .i64 0))⟩]) (.cond (.tmp 10) (.seq (.reg [
    ⟨some 4, none, .mov (.const (.int .i64 (-1)))⟩]) (.ret)) (.skip))) (.seq (.reg [
    ⟨some 11, none, .faddr 4 (.tmp 2)⟩,
    ⟨some 12, none, .load true 1 (.tmp 11)⟩,
    ⟨some 13, none, .mov (.tmp 1)⟩,
    ⟨some 14, none, .call 82 [.tmp 12, .tmp 13]⟩,
    ⟨some 1, none, .mov (.tmp 14)⟩]) (.seq (.seq (.reg [
    ⟨some 15, none, .mov (.tmp 1)⟩,
    ⟨some 16, none, .bin .lss (.tmp 15) (.const (.int .i64 0))⟩]) (.cond (.tmp 16) (.seq (.reg [
    ⟨some 4, none, .mov (.const (.int .i64 (-1)))⟩]) (.ret)) (.skip))) (.seq (.reg [
    ⟨some 17, none, .faddr 8 (.tmp 2)⟩,
    ⟨some 18, none, .load true 1 (.tmp 17)⟩,
    ⟨some 19, none, .mov (.tmp 1)⟩,
    ⟨some 20, none, .call 83 [.tmp 18, .tmp 19]⟩,
    ⟨some 1, none, .mov (.tmp 20)⟩]) (.seq (.seq (.reg [
    ⟨some 21, none, .mov (.tmp 1)⟩,
    ⟨some 22, none, .bin .lss (.tmp 21) (.const (.int .i64 0))⟩]) (.cond (.tmp 22) (.seq (.reg [
    ⟨some 4, none, .mov (.const (.int .i64 (-1)))⟩]) (.ret)) (.skip))) (.seq (.reg [
    ⟨some 23, none, .mov (.tmp 1)⟩,
    ⟨some 4, none, .mov (.tmp 23)⟩]) (.ret))))))))
theorem t30 : Try.f30.body.bind (trC e30) = some c30 := by kernel_rfl
theorem r30 : Try.f30.results.toList.mapM (trR Try.prog) = some [.tmp 4] := by kernel_rfl
theorem fn30 {args : List Value} {M : Mem} {post : Value → Mem → Prop} (hl : args.length ≤ 24) (h : VC e30 c30 (fnQ [.tmp 4] post) (initS args 24) M) : Fn Try.prog 30 args M post :=
  Fn.of' (E := e30) Try.func30 t30 rfl r30 mixed hl h
/-! laws.toWord -/
noncomputable def e35 : Env := ⟨Try.prog, [1, 2, 3], 14, []⟩
noncomputable def c35 : C :=
  .seq (.reg [
    ⟨some 1, none, .box true (.tmp 0)⟩,
    ⟨some 2, none, .alloc true [.int .i64 0, .int .i64 0, .int .i64 0]⟩]) (.seq (.reg [
    ⟨some 3, none, .alloc true [.int .i64 0, .int .i64 0, .int .i64 0]⟩]) (.seq (.reg [
    ⟨some 4, none, .faddr 0 (.tmp 1)⟩,
    ⟨some 5, none, .load true 1 (.tmp 4)⟩,
    ⟨some 6, none, .faddr 0 (.tmp 3)⟩,
    ⟨none, none, .store 1 (.tmp 6) (.tmp 5)⟩]) (.seq (.reg [
    ⟨some 7, none, .faddr 1 (.tmp 1)⟩,
    ⟨some 8, none, .load true 1 (.tmp 7)⟩,
    ⟨some 9, none, .faddr 1 (.tmp 3)⟩,
    ⟨none, none, .store 1 (.tmp 9) (.tmp 8)⟩]) (.seq (.reg [
    ⟨some 10, none, .faddr 2 (.tmp 1)⟩,
    ⟨some 11, none, .load true 1 (.tmp 10)⟩,
    ⟨some 12, none, .faddr 2 (.tmp 3)⟩,
    ⟨none, none, .store 1 (.tmp 12) (.tmp 11)⟩]) (.seq (.reg [
    ⟨some 13, none, .load false 3 (.tmp 3)⟩,
    ⟨none, none, .store 3 (.tmp 2) (.tmp 13)⟩]) (.ret))))))
theorem t35 : Try.f35.body.bind (trC e35) = some c35 := by kernel_rfl
theorem r35 : Try.f35.results.toList.mapM (trR Try.prog) = some [.cell 2 false 3] := by kernel_rfl
theorem fn35 {args : List Value} {M : Mem} {post : Value → Mem → Prop} (hl : args.length ≤ 14) (h : VC e35 c35 (fnQ [.cell 2 false 3] post) (initS args 14) M) : Fn Try.prog 35 args M post :=
  Fn.of' (E := e35) Try.func35 t35 rfl r35 mixed hl h
/-! laws.toWordS -/
noncomputable def e92 : Env := ⟨Try.prog, [], 23, []⟩
noncomputable def c92 : C :=
  .seq (.reg [
    ⟨some 2, none, .mov (.const (.slice none 0 0))⟩]) (.seq (.reg [
    ⟨some 5, none, .mov (.tmp 0)⟩,
    ⟨some 6, none, .lenS (.tmp 5)⟩,
    ⟨some 7, none, .mkslice 3 24 [.int .i64 0, .int .i64 0, .int .i64 0] (.tmp 6) (.tmp 6)⟩,
    ⟨some 3, none, .mov (.tmp 7)⟩]) (.seq (.seq (.reg [
    ⟨some 4, none, .mov (.const (.int .i64 0))⟩]) (.block 0 (.loop (.seq (.seq (.reg [
    ⟨some 8, none, .mov (.tmp 4)⟩,
    ⟨some 9, none, .mov (.tmp 0)⟩,
    ⟨some 10, none, .lenS (.tmp 9)⟩,
    ⟨some 11, none, .bin .lss (.tmp 8) (.tmp 10)⟩]) (.cond (.tmp 11) (.skip) (.exit 0))) (.seq (.block 1 (.reg [
    ⟨some 14, none, .mov (.tmp 3)⟩,
    ⟨some 15, none, .mov (.tmp 4)⟩,
    ⟨some 16, none, .mov (.tmp 0)⟩,
    ⟨some 17, none, .mov (.tmp 4)⟩,
    ⟨some 18, none, .iaddr 3 (.tmp 16) (.tmp 17)⟩,
    ⟨some 19, none, .load false 3 (.tmp 18)⟩,
    ⟨some 20, none, .call 35 [.tmp 19]⟩,
    ⟨some 21, none, .iaddr 3 (.tmp 14) (.tmp 15)⟩,
    ⟨none, none, .store 3 (.tmp 21) (.tmp 20)⟩])) (.reg [
    ⟨some 12, none, .mov (.tmp 4)⟩,
    ⟨some 13, none, .bin .add (.tmp 12) (.const (.int .i64 1))⟩,
    ⟨some 4, none, .mov (.tmp 13)⟩])))))) (.seq (.reg [
    ⟨some 22, none, .mov (.tmp 3)⟩,
    ⟨some 2, none, .mov (.tmp 22)⟩]) (.ret))))
theorem t92 : Try.f92.body.bind (trC e92) = some c92 := by kernel_rfl
theorem r92 : Try.f92.results.toList.mapM (trR Try.prog) = some [.tmp 2] := by kernel_rfl
theorem fn92 {args : List Value} {M : Mem} {post : Value → Mem → Prop} (hl : args.length ≤ 23) (h : VC e92 c92 (fnQ [.tmp 2] post) (initS args 23) M) : Fn Try.prog 92 args M post :=
  Fn.of' (E := e92) Try.func92 t92 rfl r92 mixed hl h
/-! laws.toPair -/
noncomputable def e177 : Env := ⟨Try.prog, [1, 2, 3], 13, []⟩
noncomputable def c177 : C :=
  .seq (.reg [
    ⟨some 1, none, .box true (.tmp 0)⟩,
    ⟨some 2, none, .alloc true [.int .i64 0, .int .i64 0, .int .i64 0, .int .i64 0, .int .i64 0, .int .i64 0]⟩]) (.seq (.reg [
    ⟨some 3, none, .alloc true [.int .i64 0, .int .i64 0, .int .i64 0, .int .i64 0, .int .i64 0, .int .i64 0]⟩]) (.seq (.reg [
    ⟨some 4, none, .faddr 0 (.tmp 1)⟩,
    ⟨some 5, none, .load false 3 (.tmp 4)⟩,
    ⟨some 6, none, .call 35 [.tmp 5]⟩,
    ⟨some 7, none, .faddr 0 (.tmp 3)⟩,
    ⟨none, none, .store 3 (.tmp 7) (.tmp 6)⟩]) (.seq (.reg [
    ⟨some 8, none, .faddr 3 (.tmp 1)⟩,
    ⟨some 9, none, .load false 3 (.tmp 8)⟩,
    ⟨some 10, none, .call 35 [.tmp 9]⟩,
    ⟨some 11, none, .faddr 3 (.tmp 3)⟩,
    ⟨none, none, .store 3 (.tmp 11) (.tmp 10)⟩]) (.seq (.reg [
    ⟨some 12, none, .load false 6 (.tmp 3)⟩,
    ⟨none, none, .store 6 (.tmp 2) (.tmp 12)⟩]) (.ret)))))
theorem t177 : Try.f177.body.bind (trC e177) = some c177 := by kernel_rfl
theorem r177 : Try.f177.results.toList.mapM (trR Try.prog) = some [.cell 2 false 6] := by kernel_rfl
theorem fn177 {args : List Value} {M : Mem} {post : Value → Mem → Prop} (hl : args.length ≤ 13) (h : VC e177 c177 (fnQ [.cell 2 false 6] post) (initS args 13) M) : Fn Try.prog 177 args M post :=
  Fn.of' (E := e177) Try.func177 t177 rfl r177 mixed hl h
/-! laws.toPairS -/
noncomputable def e165 : Env := ⟨Try.prog, [], 23, []⟩
noncomputable def c165 : C :=
  .seq (.reg [
    ⟨some 2, none, .mov (.const (.slice none 0 0))⟩]) (.seq (.reg [
    ⟨some 5, none, .mov (.tmp 0)⟩,
    ⟨some 6, none, .lenS (.tmp 5)⟩,
    ⟨some 7, none, .mkslice 6 48 [.int .i64 0, .int .i64 0, .int .i64 0, .int .i64 0, .int .i64 0, .int .i64 0] (.tmp 6) (.tmp 6)⟩,
    ⟨some 3, none, .mov (.tmp 7)⟩]) (.seq (.seq (.reg [
    ⟨some 4, none, .mov (.const (.int .i64 0))⟩]) (.block 0 (.loop (.seq (.seq (.reg [
    ⟨some 8, none, .mov (.tmp 4)⟩,
    ⟨some 9, none, .mov (.tmp 0)⟩,
    ⟨some 10, none, .lenS (.tmp 9)⟩,
    ⟨some 11, none, .bin .lss (.tmp 8) (.tmp 10)⟩]) (.cond (.tmp 11) (.skip) (.exit 0))) (.seq (.block 1 (.reg [
    ⟨some 14, none, .mov (.tmp 3)⟩,
    ⟨some 15, none, .mov (.tmp 4)⟩,
    ⟨some 16, none, .mov (.tmp 0)⟩,
    ⟨some 17, none, .mov (.tmp 4)⟩,
    ⟨some 18, none, .iaddr 6 (.tmp 16) (.tmp 17)⟩,
    ⟨some 19, none, .load false 6 (.tmp 18)⟩,
    ⟨some 20, none, .call 177 [.tmp 19]⟩,
    ⟨some 21, none, .iaddr 6 (.tmp 14) (.tmp 15)⟩,
    ⟨none, none, .store 6 (.tmp 21) (.tmp 20)⟩])) (.reg [
    ⟨some 12, none, .mov (.tmp 4)⟩,
    ⟨some 13, none, .bin .add (.tmp 12) (.const (.int .i64 1))⟩,
    ⟨some 4, none, .mov (.tmp 13)⟩])))))) (.seq (.reg [
    ⟨some 22, none, .mov (.tmp 3)⟩,
    ⟨some 2, none, .mov (.tmp 22)⟩]) (.ret))))
theorem t165 : Try.f165.body.bind (trC e165) = some c165 := by kernel_rfl
theorem r165 : Try.f165.results.toList.mapM (trR Try.prog) = some [.tmp 2] := by kernel_rfl
theorem fn165 {args : List Value} {M : Mem} {post : Value → Mem → Prop} (hl : args.length ≤ 23) (h : VC e165 c165 (fnQ [.tmp 2] post) (initS args 23) M) : Fn Try.prog 165 args M post :=
  Fn.of' (E := e165) Try.func165 t165 rfl r165 mixed hl h
/-! laws.toCell -/
noncomputable def e140 : Env := ⟨Try.prog, [1, 2, 3], 30, []⟩
noncomputable def c140 : C :=
  .seq (.reg [
    ⟨some 1, none, .box true (.tmp 0)⟩,
    ⟨some 2, none, .alloc true [.int .i64 0, .int .i64 0, .int .i64 0, .int .i64 0, .int .i64 0, .int .i64 0, .int .i64 0, .slice none 0 0]⟩]) (.seq (.reg [
    ⟨some 3, none, .alloc true [.int .i64 0, .int .i64 0, .int .i64 0, .int .i64 0, .int .i64 0, .int .i64 0, .int .i64 0, .slice none 0 0]⟩]) (.seq (.reg [
    ⟨some 4, none, .faddr 0 (.tmp 1)⟩,
    ⟨some 5, none, .load true 1 (.tmp 4)⟩,
    ⟨some 6, none, .faddr 0 (.tmp 3)⟩,
    ⟨none, none, .store 1 (.tmp 6) (.tmp 5)⟩]) (.seq (.reg [
    ⟨some 7, none, .faddr 1 (.tmp 1)⟩,
    ⟨some 8, none, .load true 1 (.tmp 7)⟩,
    ⟨some 9, none, .faddr 1 (.tmp 3)⟩,
    ⟨none, none, .store 1 (.tmp 9) (.tmp 8)⟩]) (.seq (.reg [
    ⟨some 10, none, .faddr 2 (.tmp 1)⟩,
    ⟨some 11, none, .load true 1 (.tmp 10)⟩,
    ⟨some 12, none, .faddr 2 (.tmp 3)⟩,
    ⟨none, none, .store 1 (.tmp 12) (.tmp 11)⟩]) (.seq (.reg [
    ⟨some 13, none, .faddr 3 (.tmp 1)⟩,
    ⟨some 14, none, .load true 1 (.tmp 13)⟩,
    ⟨some 15, none, .faddr 3 (.tmp 3)⟩,
    ⟨none, none, .store 1 (.tmp 15) (.tmp 14)⟩]) (.seq (.reg [
    ⟨some 16, none, .faddr 4 (.tmp 1)⟩,
    ⟨some 17, none, .load true 1 (.tmp 16)⟩,
    ⟨some 18, none, .faddr 4 (.tmp 3)⟩,
    ⟨none, none, .store 1 (.tmp 18) (.tmp 17)⟩]) (.seq (.reg [
    ⟨some 19, none, .faddr 5 (.tmp 1)⟩,
    ⟨some 20, none, .load true 1 (.tmp 19)⟩,
    ⟨some 21, none, .faddr 5 (.tmp 3)⟩,
    ⟨none, none, .store 1 (.tmp 21) (.tmp 20)⟩]) (.seq (.reg [
    ⟨some 22, none, .faddr 6 (.tmp 1)⟩,
    ⟨some 23, none, .load true 1 (.tmp 22)⟩,
    ⟨some 24, none, .faddr 6 (.tmp 3)⟩,
    ⟨none, none, .store 1 (.tmp 24) (.tmp 23)⟩]) (.seq (.reg [
    ⟨some 25, none, .faddr 7 (.tmp 1)⟩,
    ⟨some 26, none, .load true 1 (.tmp 25)⟩,
    ⟨some 27, none, .call 165 [.tmp 26]⟩,
    ⟨some 28, none, .faddr 7 (.tmp 3)⟩,
    ⟨none, none, .store 1 (.tmp 28) (.tmp 27)⟩]) (.seq (.reg [
    ⟨some 29, none, .load false 8 (.tmp 3)⟩,
    ⟨none, none, .store 8 (.tmp 2) (.tmp 29)⟩]) (.ret)))))))))))
theorem t140 : Try.f140.body.bind (trC e140) = some c140 := by kernel_rfl
theorem r140 : Try.f140.results.toList.mapM (trR Try.prog) = some [.cell 2 false 8] := by kernel_rfl
theorem fn140 {args : List Value} {M : Mem} {post : Value → Mem → Prop} (hl : args.length ≤ 30) (h : VC e140 c140 (fnQ [.cell 2 false 8] post) (initS args 30) M) : Fn Try.prog 140 args M post :=
  Fn.of' (E := e140) Try.func140 t140 rfl r140 mixed hl h
/-! laws.toCellS -/
noncomputable def e93 : Env := ⟨Try.prog, [], 23, []⟩
noncomputable def c93 : C :=
  .seq (.reg [
    ⟨some 2, none, .mov (.const (.slice none 0 0))⟩]) (.seq (.reg [
    ⟨some 5, none, .mov (.tmp 0)⟩,
    ⟨some 6, none, .lenS (.tmp 5)⟩,
    ⟨some 7, none, .mkslice 8 80 [.int .i64 0, .int .i64 0, .int .i64 0, .int .i64 0, .int .i64 0, .int .i64 0, .int .i64 0, .slice none 0 0] (.tmp 6) (.tmp 6)⟩,
    ⟨some 3, none, .mov (.tmp 7)⟩]) (.seq (.seq (.reg [
    ⟨some 4, none, .mov (.const (.int .i64 0))⟩]) (.block 0 (.loop (.seq (.seq (.reg [
    ⟨some 8, none, .mov (.tmp 4)⟩,
    ⟨some 9, none, .mov (.tmp 0)⟩,
    ⟨some 10, none, .lenS (.tmp 9)⟩,
    ⟨some 11, none, .bin .lss (.tmp 8) (.tmp 10)⟩]) (.cond (.tmp 11) (.skip) (.exit 0))) (.seq (.block 1 (.reg [
    ⟨some 14, none, .mov (.tmp 3)⟩,
    ⟨some 15, none, .mov (.tmp 4)⟩,
    ⟨some 16, none, .mov (.tmp 0)⟩,
    ⟨some 17, none, .mov (.tmp 4)⟩,
    ⟨some 18, none, .iaddr 8 (.tmp 16) (.tmp 17)⟩,
    ⟨some 19, none, .load false 8 (.tmp 18)⟩,
    ⟨some 20, none, .call 140 [.tmp 19]⟩,
    ⟨some 21, none, .iaddr 8 (.tmp 14) (.tmp 15)⟩,
    ⟨none, none, .store 8 (.tmp 21) (.tmp 20)⟩])) (.reg [
    ⟨some 12, none, .mov (.tmp 4)⟩,
    ⟨some 13, none, .bin .add (.tmp 12) (.const (.int .i64 1))⟩,
    ⟨some 4, none, .mov (.tmp 13)⟩])))))) (.seq (.reg [
    ⟨some 22, none, .mov (.tmp 3)⟩,
    ⟨some 2, none, .mov (.tmp 22)⟩]) (.ret))))
theorem t93 : Try.f93.body.bind (trC e93) = some c93 := by kernel_rfl
theorem r93 : Try.f93.results.toList.mapM (trR Try.prog) = some [.tmp 2] := by kernel_rfl
theorem fn93 {args : List Value} {M : Mem} {post : Value → Mem → Prop} (hl : args.length ≤ 23) (h : VC e93 c93 (fnQ [.tmp 2] post) (initS args 23) M) : Fn Try.prog 93 args M post :=
  Fn.of' (E := e93) Try.func93 t93 rfl r93 mixed hl h
/-! laws.toIntS -/
noncomputable def e94 : Env := ⟨Try.prog, [], 22, []⟩
noncomputable def c94 : C :=
  .seq (.reg [
    ⟨some 2, none, .mov (.const (.slice none 0 0))⟩]) (.seq (.reg [
    ⟨some 5, none, .mov (.tmp 0)⟩,
    ⟨some 6, none, .lenS (.tmp 5)⟩,
    ⟨some 7, none, .mkslice 1 8 [.int .i64 0] (.tmp 6) (.tmp 6)⟩,
    ⟨some 3, none, .mov (.tmp 7)⟩]) (.seq (.seq (.reg [
    ⟨some 4, none, .mov (.const (.int .i64 0))⟩]) (.block 0 (.loop (.seq (.seq (.reg [
    ⟨some 8, none, .mov (.tmp 4)⟩,
    ⟨some 9, none, .mov (.tmp 0)⟩,
    ⟨some 10, none, .lenS (.tmp 9)⟩,
    ⟨some 11, none, .bin .lss (.tmp 8) (.tmp 10)⟩]) (.cond (.tmp 11) (.skip) (.exit 0))) (.seq (.block 1 (.reg [
    ⟨some 14, none, .mov (.tmp 3)⟩,
    ⟨some 15, none, .mov (.tmp 4)⟩,
    ⟨some 16, none, .mov (.tmp 0)⟩,
    ⟨some 17, none, .mov (.tmp 4)⟩,
    ⟨some 18, none, .iaddr 1 (.tmp 16) (.tmp 17)⟩,
    ⟨some 19, none, .load true 1 (.tmp 18)⟩,
    ⟨some 20, none, .iaddr 1 (.tmp 14) (.tmp 15)⟩,
    ⟨none, none, .store 1 (.tmp 20) (.tmp 19)⟩])) (.reg [
    ⟨some 12, none, .mov (.tmp 4)⟩,
    ⟨some 13, none, .bin .add (.tmp 12) (.const (.int .i64 1))⟩,
    ⟨some 4, none, .mov (.tmp 13)⟩])))))) (.seq (.reg [
    ⟨some 21, none, .mov (.tmp 3)⟩,
    ⟨some 2, none, .mov (.tmp 21)⟩]) (.ret))))
theorem t94 : Try.f94.body.bind (trC e94) = some c94 := by kernel_rfl
theorem r94 : Try.f94.results.toList.mapM (trR Try.prog) = some [.tmp 2] := by kernel_rfl
theorem fn94 {args : List Value} {M : Mem} {post : Value → Mem → Prop} (hl : args.length ≤ 22) (h : VC e94 c94 (fnQ [.tmp 2] post) (initS args 22) M) : Fn Try.prog 94 args M post :=
  Fn.of' (E := e94) Try.func94 t94 rfl r94 mixed hl h
/-! laws.toHeap -/
noncomputable def e32 : Env := ⟨Try.prog, [1, 2, 3], 47, []⟩
noncomputable def c32 : C :=
  .seq (.reg [
    ⟨some 1, none, .box true (.tmp 0)⟩,
    ⟨some 2, none, .alloc true [.int .i64 0, .int .i64 0, .int .i64 0, .slice none 0 0, .slice none 0 0, .int .i64 0, .int .i64 0, .int .i64 0, .slice none 0 0, .int .i64 0, .int .i64 0, .int .i64 0, .int .i64 0]⟩]) (.seq (.reg [
    ⟨some 3, none, .alloc true [.int .i64 0, .int .i64 0, .int .i64 0, .slice none 0 0, .slice none 0 0, .int .i64 0, .int .i64 0, .int .i64 0, .slice none 0 0, .int .i64 0, .int .i64 0, .int .i64 0, .int .i64 0]⟩]) (.seq (.reg [
    ⟨some 4, none, .faddr 0 (.tmp 1)⟩,
    ⟨some 5, none, .load true 1 (.tmp 4)⟩,
    ⟨some 6, none, .faddr 0 (.tmp 3)⟩,
    ⟨none, none, .store 1 (.tmp 6) (.tmp 5)⟩]) (.seq (.reg [
    ⟨some 7, none, .faddr 1 (.tmp 1)⟩,
    ⟨some 8, none, .load true 1 (.tmp 7)⟩,
    ⟨some 9, none, .faddr 1 (.tmp 3)⟩,
    ⟨none, none, .store 1 (.tmp 9) (.tmp 8)⟩]) (.seq (.reg [
    ⟨some 10, none, .faddr 2 (.tmp 1)⟩,
    ⟨some 11, none, .load true 1 (.tmp 10)⟩,
    ⟨some 12, none, .faddr 2 (.tmp 3)⟩,
    ⟨none, none, .store 1 (.tmp 12) (.tmp 11)⟩]) (.seq (.reg [
    ⟨some 13, none, .faddr 3 (.tmp 1)⟩,
    ⟨some 14, none, .load true 1 (.tmp 13)⟩,
    ⟨some 15, none, .call 92 [.tmp 14]⟩,
    ⟨some 16, none, .faddr 3 (.tmp 3)⟩,
    ⟨none, none, .store 1 (.tmp 16) (.tmp 15)⟩]) (.seq (.reg [
    ⟨some 17, none, .faddr 4 (.tmp 1)⟩,
    ⟨some 18, none, .load true 1 (.tmp 17)⟩,
    ⟨some 19, none, .call 93 [.tmp 18]⟩,
    ⟨some 20, none, .faddr 4 (.tmp 3)⟩,
    ⟨none, none, .store 1 (.tmp 20) (.tmp 19)⟩]) (.seq (.reg [
    ⟨some 21, none, .faddr 5 (.tmp 1)⟩,
    ⟨some 22, none, .load true 1 (.tmp 21)⟩,
    ⟨some 23, none, .faddr 5 (.tmp 3)⟩,
    ⟨none, none, .store 1 (.tmp 23) (.tmp 22)⟩]) (.seq (.reg [
    ⟨some 24, none, .faddr 6 (.tmp 1)⟩,
    ⟨some 25, none, .load true 1 (.tmp 24)⟩,
    ⟨some 26, none, .faddr 6 (.tmp 3)⟩,
    ⟨none, none, .store 1 (.tmp 26) (.tmp 25)⟩]) (.seq (.reg [
    ⟨some 27, none, .faddr 7 (.tmp 1)⟩,
    ⟨some 28, none, .load true 1 (.tmp 27)⟩,
    ⟨some 29, none, .faddr 7 (.tmp 3)⟩,
    ⟨none, none, .store 1 (.tmp 29) (.tmp 28)⟩]) (.seq (.reg [
    ⟨some 30, none, .faddr 8 (.tmp 1)⟩,
    ⟨some 31, none, .load true 1 (.tmp 30)⟩,
    ⟨some 32, none, .call 94 [.tmp 31]⟩,
    ⟨some 33, none, .faddr 8 (.tmp 3)⟩,
    ⟨none, none, .store 1 (.tmp 33) (.tmp 32)⟩]) (.seq (.reg [
    ⟨some 34, none, .faddr 9 (.tmp 1)⟩,
    ⟨some 35, none, .load true 1 (.tmp 34)⟩,
    ⟨some 36, none, .faddr 9 (.tmp 3)⟩,
    ⟨none, none, .store 1 (.tmp 36) (.tmp 35)⟩]) (.seq (.reg [
    ⟨some 37, none, .faddr 10 (.tmp 1)⟩,
    ⟨some 38, none, .load true 1 (.tmp 37)⟩,
    ⟨some 39, none, .faddr 10 (.tmp 3)⟩,
    ⟨none, none, .store 1 (.tmp 39) (.tmp 38)⟩]) (.seq (.reg [
    ⟨some 40, none, .faddr 11 (.tmp 1)⟩,
    ⟨some 41, none, .load true 1 (.tmp 40)⟩,
    ⟨some 42, none, .faddr 11 (.tmp 3)⟩,
    ⟨none, none, .store 1 (.tmp 42) (.tmp 41)⟩]) (.seq (.reg [
    ⟨some 43, none, .faddr 12 (.tmp 1)⟩,
    ⟨some 44, none, .load true 1 (.tmp 43)⟩,
    ⟨some 45, none, .faddr 12 (.tmp 3)⟩,
    ⟨none, none, .store 1 (.tmp 45) (.tmp 44)⟩]) (.seq (.reg [
    ⟨some 46, none, .load false 13 (.tmp 3)⟩,
    ⟨none, none, .store 13 (.tmp 2) (.tmp 46)⟩]) (.ret))))))))))))))))
theorem t32 : Try.f32.body.bind (trC e32) = some c32 := by kernel_rfl
theorem r32 : Try.f32.results.toList.mapM (trR Try.prog) = some [.cell 2 false 13] := by kernel_rfl
theorem fn32 {args : List Value} {M : Mem} {post : Value → Mem → Prop} (hl : args.length ≤ 47) (h : VC e32 c32 (fnQ [.cell 2 false 13] post) (initS args 47) M) : Fn Try.prog 32 args M post :=
  Fn.of' (E := e32) Try.func32 t32 rfl r32 mixed hl h
/-! laws.szActS -/
noncomputable def e18 : Env := ⟨Try.prog, [], 12, []⟩
noncomputable def c18 : C :=
  .seq (.reg [
    ⟨some 4, none, .mov (.const (.int .i64 0))⟩]) (.seq (.reg [
    ⟨some 5, none, .mov (.tmp 1)⟩,
    ⟨some 6, none, .mov (.tmp 0)⟩,
    ⟨some 7, none, .lenS (.tmp 6)⟩,
    ⟨some 8, none, .bin .sub (.tmp 5) (.tmp 7)⟩,
    ⟨some 1, none, .mov (.tmp 8)⟩]) (.seq (.seq (.reg [
    ⟨some 9, none, .mov (.tmp 1)⟩,
    ⟨some 10, none, .bin .lss (.tmp 9) (.const (.int .i64 0))⟩]) (.cond (.tmp 10) (.seq (.reg [
    ⟨some 4, none, .mov (.const (.int .i64 (-1)))⟩]) (.ret)) (.skip))) (.seq (.reg [
    ⟨some 11, none, .mov (.tmp 1)⟩,
    ⟨some 4, none, .mov (.tmp 11)⟩]) (.ret))))
theorem t18 : Try.f18.body.bind (trC e18) = some c18 := by kernel_rfl
theorem r18 : Try.f18.results.toList.mapM (trR Try.prog) = some [.tmp 4] := by kernel_rfl
theorem fn18 {args : List Value} {M : Mem} {post : Value → Mem → Prop} (hl : args.length ≤ 12) (h : VC e18 c18 (fnQ [.tmp 4] post) (initS args 12) M) : Fn Try.prog 18 args M post :=
  Fn.of' (E := e18) Try.func18 t18 rfl r18 mixed hl h
/-! laws.toAct -/
noncomputable def e67 : Env := ⟨Try.prog, [1, 2, 3], 20, []⟩
noncomputable def c67 : C :=
  .seq (.reg [
    ⟨some 1, none, .box true (.tmp 0)⟩,
    ⟨some 2, none, .alloc true [.int .i64 0, .int .i64 0, .int .i64 0, .int .i64 0, .int .i64 0]⟩]) (.seq (.reg [
    ⟨some 3, none, .alloc true [.int .i64 0, .int .i64 0, .int .i64 0, .int .i64 0, .int .i64 0]⟩]) (.seq (.reg [
    ⟨some 4, none, .faddr 0 (.tmp 1)⟩,
    ⟨some 5, none, .load true 1 (.tmp 4)⟩,
    ⟨some 6, none, .faddr 0 (.tmp 3)⟩,
    ⟨none, none, .store 1 (.tmp 6) (.tmp 5)⟩]) (.seq (.reg [
    ⟨some 7, none, .faddr 1 (.tmp 1)⟩,
    ⟨some 8, none, .load true 1 (.tmp 7)⟩,
    ⟨some 9, none, .faddr 1 (.tmp 3)⟩,
    ⟨none, none, .store 1 (.tmp 9) (.tmp 8)⟩]) (.seq (.reg [
    ⟨some 10, none, .faddr 2 (.tmp 1)⟩,
    ⟨some 11, none, .load true 1 (.tmp 10)⟩,
    ⟨some 12, none, .faddr 2 (.tmp 3)⟩,
    ⟨none, none, .store 1 (.tmp 12) (.tmp 11)⟩]) (.seq (.reg [
    ⟨some 13, none, .faddr 3 (.tmp 1)⟩,
    ⟨some 14, none, .load true 1 (.tmp 13)⟩,
    ⟨some 15, none, .faddr 3 (.tmp 3)⟩,
    ⟨none, none, .store 1 (.tmp 15) (.tmp 14)⟩]) (.seq (.reg [
    ⟨some 16, none, .faddr 4 (.tmp 1)⟩,
    ⟨some 17, none, .load true 1 (.tmp 16)⟩,
    ⟨some 18, none, .faddr 4 (.tmp 3)⟩,
    ⟨none, none, .store 1 (.tmp 18) (.tmp 17)⟩]) (.seq (.reg [
    ⟨some 19, none, .load false 5 (.tmp 3)⟩,
    ⟨none, none, .store 5 (.tmp 2) (.tmp 19)⟩]) (.ret))))))))
theorem t67 : Try.f67.body.bind (trC e67) = some c67 := by kernel_rfl
theorem r67 : Try.f67.results.toList.mapM (trR Try.prog) = some [.cell 2 false 5] := by kernel_rfl
theorem fn67 {args : List Value} {M : Mem} {post : Value → Mem → Prop} (hl : args.length ≤ 20) (h : VC e67 c67 (fnQ [.cell 2 false 5] post) (initS args 20) M) : Fn Try.prog 67 args M post :=
  Fn.of' (E := e67) Try.func67 t67 rfl r67 mixed hl h
/-! laws.toActS -/
noncomputable def e20 : Env := ⟨Try.prog, [], 23, []⟩
noncomputable def c20 : C :=
  .seq (.reg [
    ⟨some 2, none, .mov (.const (.slice none 0 0))⟩]) (.seq (.reg [
    ⟨some 5, none, .mov (.tmp 0)⟩,
    ⟨some 6, none, .lenS (.tmp 5)⟩,
    ⟨some 7, none, .mkslice 5 40 [.int .i64 0, .int .i64 0, .int .i64 0, .int .i64 0, .int .i64 0] (.tmp 6) (.tmp 6)⟩,
    ⟨some 3, none, .mov (.tmp 7)⟩]) (.seq (.seq (.reg [
    ⟨some 4, none, .mov (.const (.int .i64 0))⟩]) (.block 0 (.loop (.seq (.seq (.reg [
    ⟨some 8, none, .mov (.tmp 4)⟩,
    ⟨some 9, none, .mov (.tmp 0)⟩,
    ⟨some 10, none, .lenS (.tmp 9)⟩,
    ⟨some 11, none, .bin .lss (.tmp 8) (.tmp 10)⟩]) (.cond (.tmp 11) (.skip) (.exit 0))) (.seq (.block 1 (.reg [
    ⟨some 14, none, .mov (.tmp 3)⟩,
    ⟨some 15, none, .mov (.tmp 4)⟩,
    ⟨some 16, none, .mov (.tmp 0)⟩,
    ⟨some 17, none, .mov (.tmp 4)⟩,
    ⟨some 18, none, .iaddr 5 (.tmp 16) (.tmp 17)⟩,
    ⟨some 19, none, .load false 5 (.tmp 18)⟩,
    ⟨some 20, none, .call 67 [.tmp 19]⟩,
    ⟨some 21, none, .iaddr 5 (.tmp 14) (.tmp 15)⟩,
    ⟨none, none, .store 5 (.tmp 21) (.tmp 20)⟩])) (.reg [
    ⟨some 12, none, .mov (.tmp 4)⟩,
    ⟨some 13, none, .bin .add (.tmp 12) (.const (.int .i64 1))⟩,
    ⟨some 4, none, .mov (.tmp 13)⟩])))))) (.seq (.reg [
    ⟨some 22, none, .mov (.tmp 3)⟩,
    ⟨some 2, none, .mov (.tmp 22)⟩]) (.ret))))
theorem t20 : Try.f20.body.bind (trC e20) = some c20 := by kernel_rfl
theorem r20 : Try.f20.results.toList.mapM (trR Try.prog) = some [.tmp 2] := by kernel_rfl
theorem fn20 {args : List Value} {M : Mem} {post : Value → Mem → Prop} (hl : args.length ≤ 23) (h : VC e20 c20 (fnQ [.tmp 2] post) (initS args 23) M) : Fn Try.prog 20 args M post :=
  Fn.of' (E := e20) Try.func20 t20 rfl r20 mixed hl h
end Go.Proofs.Ytcmllambknfleaa.E
/- The laws' sizes and copies of words, pairs, cells, heaps. Conditions: none. -/
set_option linter.unusedVariables false
set_option linter.unusedSimpArgs false
set_option maxRecDepth 100000
namespace Go.Proofs.Ytcmllambknfleaa.E
open Go
open Classical
theorem szWordS_q {M : Mem} {va : Value} {xs : List Word} {l : Int} (h0 : 0 ≤ l) (h1 : l ≤ 1048576) (ha : SlR M 3 wv va xs) : Qt Try.prog 81 [va, .int .i64 l] M (.int .i64 (if (xs.length : Int) ≤ l then l - xs.length else -1)) := by
  obtain ⟨aa, ca, ea⟩ := ha.len
  have hbd := ha.bound
  refine fn81 (by simp) ?_
  subst ea
  repeat' (first
    | (refine vl_sub rfl rfl (by omega) ?_)
    | (refine vl_pure rfl ?_)
    | (refine vl_nil ?_)
    | (refine VC.seq ?_)
    | (refine VC.regV ?_)
    | (refine VC.ret ?_)
    | (refine VC.skip ?_)
    | (refine seqQ_n ?_)
    | (refine seqQ_r ?_)
    | (refine VC.cond _ rfl (fun hb => ?_) (fun hb => ?_)))
  all_goals (refine fnQ_r rfl (Mem.le_refl _) (q_end ?_))
  · have h : l - (xs.length : Int) < 0 := by simpa using hb
    rw [if_neg (by omega)]
  · have h : ¬ l - (xs.length : Int) < 0 := by simpa using hb
    rw [if_pos (by omega)]
theorem szPairS_q {M : Mem} {va : Value} {xs : List Pair} {l : Int} (h0 : 0 ≤ l) (h1 : l ≤ 1048576) (ha : SlR M 6 pv va xs) : Qt Try.prog 164 [va, .int .i64 l] M (.int .i64 (if (xs.length : Int) ≤ l then l - xs.length else -1)) := by
  obtain ⟨aa, ca, ea⟩ := ha.len
  have hbd := ha.bound
  refine fn164 (by simp) ?_
  subst ea
  repeat' (first
    | (refine vl_sub rfl rfl (by omega) ?_)
    | (refine vl_pure rfl ?_)
    | (refine vl_nil ?_)
    | (refine VC.seq ?_)
    | (refine VC.regV ?_)
    | (refine VC.ret ?_)
    | (refine VC.skip ?_)
    | (refine seqQ_n ?_)
    | (refine seqQ_r ?_)
    | (refine VC.cond _ rfl (fun hb => ?_) (fun hb => ?_)))
  all_goals (refine fnQ_r rfl (Mem.le_refl _) (q_end ?_))
  · have h : l - (xs.length : Int) < 0 := by simpa using hb
    rw [if_neg (by omega)]
  · have h : ¬ l - (xs.length : Int) < 0 := by simpa using hb
    rw [if_pos (by omega)]
theorem szIntS_q {M : Mem} {va : Value} {xs : List Int} {l : Int} (h0 : 0 ≤ l) (h1 : l ≤ 1048576) (ha : SlR M 1 iv va xs) : Qt Try.prog 83 [va, .int .i64 l] M (.int .i64 (if (xs.length : Int) ≤ l then l - xs.length else -1)) := by
  obtain ⟨aa, ca, ea⟩ := ha.len
  have hbd := ha.bound
  refine fn83 (by simp) ?_
  subst ea
  repeat' (first
    | (refine vl_sub rfl rfl (by omega) ?_)
    | (refine vl_pure rfl ?_)
    | (refine vl_nil ?_)
    | (refine VC.seq ?_)
    | (refine VC.regV ?_)
    | (refine VC.ret ?_)
    | (refine VC.skip ?_)
    | (refine seqQ_n ?_)
    | (refine seqQ_r ?_)
    | (refine VC.cond _ rfl (fun hb => ?_) (fun hb => ?_)))
  all_goals (refine fnQ_r rfl (Mem.le_refl _) (q_end ?_))
  · have h : l - (xs.length : Int) < 0 := by simpa using hb
    rw [if_neg (by omega)]
  · have h : ¬ l - (xs.length : Int) < 0 := by simpa using hb
    rw [if_pos (by omega)]
theorem szActS_q {M : Mem} {va : Value} {xs : List Act} {l : Int} (h0 : 0 ≤ l) (h1 : l ≤ 1048576) (ha : SlR M 5 av va xs) : Qt Try.prog 18 [va, .int .i64 l] M (.int .i64 (if (xs.length : Int) ≤ l then l - xs.length else -1)) := by
  obtain ⟨aa, ca, ea⟩ := ha.len
  have hbd := ha.bound
  refine fn18 (by simp) ?_
  subst ea
  repeat' (first
    | (refine vl_sub rfl rfl (by omega) ?_)
    | (refine vl_pure rfl ?_)
    | (refine vl_nil ?_)
    | (refine VC.seq ?_)
    | (refine VC.regV ?_)
    | (refine VC.ret ?_)
    | (refine VC.skip ?_)
    | (refine seqQ_n ?_)
    | (refine seqQ_r ?_)
    | (refine VC.cond _ rfl (fun hb => ?_) (fun hb => ?_)))
  all_goals (refine fnQ_r rfl (Mem.le_refl _) (q_end ?_))
  · have h : l - (xs.length : Int) < 0 := by simpa using hb
    rw [if_neg (by omega)]
  · have h : ¬ l - (xs.length : Int) < 0 := by simpa using hb
    rw [if_pos (by omega)]

theorem szCell_q {M : Mem} {x : CS} {l : Int} (h0 : 0 ≤ l) (h1 : l ≤ 1048576) (ha : SlR M 6 pv x.s x.c.pairs) : Qt Try.prog 133 [ca x, .int .i64 l] M (.int .i64 (if (x.c.pairs.length : Int) ≤ l then l - x.c.pairs.length else -1)) := by
  refine fn133 (by simp) ?_
  repeat' (first
    | (refine vl_pure rfl ?_)
    | (refine vl_nil ?_)
    | (refine VC.seq ?_)
    | (refine VC.regV ?_)
    | (refine vl_box rfl rfl ?_)
    | (refine vl_cq rfl (szPairS_q h0 h1 ha) ?_)
    | (refine VC.ret ?_)
    | (refine VC.skip ?_)
    | (refine seqQ_n ?_)
    | (refine seqQ_r ?_)
    | (refine VC.cond _ rfl (fun hb => ?_) (fun hb => ?_)))
  all_goals (refine fnQ_r rfl (Mem.le_refl _) (q_end ?_))
  · by_cases h : (x.c.pairs.length : Int) ≤ l
    · rw [if_pos h] at hb; simp at hb; omega
    · rw [if_neg h]
  · rfl
/-- how many pairs some cells have -/
def pairsN (cs : List Cell) : Int := (cs.map fun c => (c.pairs.length : Int)).sum
theorem pairsN_nonneg (cs : List Cell) : 0 ≤ pairsN cs := by
  unfold pairsN
  induction cs with
  | nil => simp
  | cons c r ih => simp only [List.map_cons, List.sum_cons]; omega
theorem pairsN_take {cs : List Cell} {i : Nat} {c : Cell} (h : cs[i]? = some c) : pairsN (cs.take (i + 1)) = pairsN (cs.take i) + c.pairs.length := by
  unfold pairsN
  rw [List.take_add_one, h, List.map_append, List.sum_append]; simp
theorem pairsN_le (cs : List Cell) (i : Nat) : pairsN (cs.take i) ≤ pairsN cs := by
  have h : pairsN cs = pairsN (cs.take i) + pairsN (cs.drop i) := by
    unfold pairsN
    rw [← List.sum_append, ← List.map_append, List.take_append_drop]
  have := pairsN_nonneg (cs.drop i)
  omega
theorem szCellS_q {M : Mem} {va : Value} {xs : List CS} {l : Int} (h0 : 0 ≤ l) (h1 : l ≤ 1048576) (ha : SlR M 8 csv va xs) (hx : ∀ x, x ∈ xs → SlR M 6 pv x.s x.c.pairs) :
    Qt Try.prog 82 [va, .int .i64 l] M (.int .i64 (if (xs.length : Int) + pairsN (xs.map (·.c)) ≤ l then l - (xs.length + pairsN (xs.map (·.c))) else -1)) := by
  obtain ⟨aa, ca, ea⟩ := ha.len
  have hbd := ha.bound
  have hnn := pairsN_nonneg (xs.map (·.c))
  refine fn82 (by simp) ?_
  subst ea
  repeat' (first
    | (refine vl_sub rfl rfl (by omega) ?_)
    | (refine vl_pure rfl ?_)
    | (refine vl_nil ?_)
    | (refine VC.seq ?_)
    | (refine VC.regV ?_)
    | (refine seqQ_n ?_))
  refine VC.cond _ rfl (fun h => ?_) (fun h => ?_)
  · repeat' (first
      | (refine vl_pure rfl ?_)
      | (refine vl_nil ?_)
      | (refine VC.seq ?_)
      | (refine VC.regV ?_)
      | (refine VC.ret ?_)
      | (refine seqQ_r ?_))
    refine fnQ_r rfl (Mem.le_refl _) (q_end ?_)
    have h : l - (xs.length : Int) < 0 := by simpa using h
    rw [if_neg (by omega)]
  have hl : ¬ l - (xs.length : Int) < 0 := by simpa using h
  repeat' (first
    | (refine vl_pure rfl ?_)
    | (refine vl_nil ?_)
    | (refine VC.seq ?_)
    | (refine VC.regV ?_)
    | (refine VC.block ?_)
    | (refine VC.skip ?_))
  refine VC.loop (α := Nat × Int) (fun p => [(0, .v (.slice aa xs.length ca)), (1, .v (.int .i64 p.2)), (5, .v (.int .i64 p.1))]) (fun k p M' => k = xs.length - p.1 ∧ p.1 ≤ xs.length ∧ M' = M ∧ 0 ≤ p.2 ∧ p.2 = l - xs.length - pairsN ((xs.map (·.c)).take p.1))
    ⟨_, (0, _), M, ⟨rfl, rfl, rfl, trivial⟩, Mem.le_refl _, rfl, Nat.zero_le _, rfl, by dsimp only; omega, by simp [pairsN]⟩ ?_
  rintro k ⟨i, l'⟩ M' ⟨rfl, hi, rfl, hp, hpre⟩
  dsimp only at hi hp hpre ⊢
  repeat' (first
    | (refine vl_pure rfl ?_)
    | (refine vl_nil ?_)
    | (refine VC.seq ?_)
    | (refine VC.regV ?_)
    | (refine seqQ_n ?_))
  refine VC.cond _ rfl (fun h => ?_) (fun h => ?_)
  · have hi : i < xs.length := by simpa using h
    obtain ⟨x, gx⟩ : ∃ x, xs[i]? = some x := ⟨_, List.getElem?_eq_getElem hi⟩
    obtain ⟨b1, o1, rfl, c1⟩ := ha.at2 (fun _ => rfl) gx
    have hnt := pairsN_nonneg ((xs.map (·.c)).take i)
    have htk := pairsN_take (cs := xs.map (·.c)) (i := i) (c := x.c) (by rw [List.getElem?_map, gx]; rfl)
    have hle := pairsN_le (xs.map (·.c)) (i + 1)
    repeat' (first
      | (refine vl_pure rfl ?_)
      | (refine vl_nil ?_)
      | (refine VC.seq ?_)
      | (refine VC.regV ?_)
      | (refine vl_idx rfl rfl (by omega) ?_)
      | (refine vl_lds rfl (by first | exact c1) ?_)
      | (refine vl_cq rfl (szCell_q (x := x) (l := l') hp (by omega) (hx _ (List.mem_of_getElem? gx))) ?_)
      | (refine VC.block ?_)
      | (refine VC.skip ?_)
      | (refine seqQ_n ?_))
    refine VC.cond _ rfl (fun h => ?_) (fun h => ?_)
    · repeat' (first
        | (refine vl_pure rfl ?_)
        | (refine vl_nil ?_)
        | (refine VC.seq ?_)
        | (refine VC.regV ?_)
        | (refine VC.ret ?_)
        | (refine seqQ_r ?_)
        | (refine blkQ_r ?_))
      refine fnQ_r rfl (Mem.le_refl _) (q_end ?_)
      by_cases hq : (x.c.pairs.length : Int) ≤ l'
      · rw [if_pos hq] at h; simp at h; omega
      · rw [if_neg (by omega)]
    · by_cases hq : (x.c.pairs.length : Int) ≤ l'
      · rw [if_pos hq]
        repeat' (first
          | (refine vl_add rfl rfl (by omega) ?_)
          | (refine vl_pure rfl ?_)
          | (refine vl_nil ?_)
          | (refine VC.regV ?_)
          | (refine VC.skip ?_)
          | (refine seqQ_n ?_))
        refine ⟨_, (i + 1, _), _, ?_, ⟨rfl, rfl, rfl, trivial⟩, Mem.le_refl _, rfl, hi, rfl, ?_, ?_⟩
        · dsimp only; omega
        · dsimp only; omega
        · dsimp only; omega
      · rw [if_neg hq] at h; simp at h
  · have hi : ¬ i < xs.length := by simpa using h
    repeat' (first
      | (refine vl_pure rfl ?_)
      | (refine vl_nil ?_)
      | (refine VC.seq ?_)
      | (refine VC.regV ?_)
      | (refine VC.ret ?_)
      | (refine VC.exit ?_))
    refine fnQ_r rfl (Mem.le_refl _) (q_end ?_)
    have e : i = xs.length := by omega
    rw [e, List.take_of_length_le (by simp)] at hpre
    rw [if_pos (by omega), hpre]
    congr 1; omega
theorem toWord_q {M : Mem} {a : Word} : Qt Try.prog 35 [wa a] M (wa a) := by
  refine fn35 (by simp) ?_
  repeat' (first
    | (refine vl_pure rfl ?_)
    | (refine vl_nil ?_)
    | (refine VC.seq ?_)
    | (refine VC.regV ?_)
    | (refine vl_alloc ?_)
    | (refine vl_stw rfl rfl rfl rfl (by first | rfl | assumption) (Nat.le_of_ble_eq_true rfl) ?_)
    | (refine sk_zero ?_)
    | (refine sk_succ ?_)
    | (refine wk_nil ?_)
    | (refine wk_cons ?_)
    | (refine vl_box rfl rfl ?_)
    | (refine VC.ret ?_))
  refine fnQ_r rfl (Mem.le_refl _) (q_end ?_)
  rfl
theorem toPair_q {M : Mem} {a : Pair} : Qt Try.prog 177 [pa a] M (pa a) := by
  refine fn177 (by simp) ?_
  repeat' (first
    | (refine vl_pure rfl ?_)
    | (refine vl_nil ?_)
    | (refine VC.seq ?_)
    | (refine VC.regV ?_)
    | (refine vl_alloc ?_)
    | (refine vl_stw rfl rfl rfl rfl (by first | rfl | assumption) (Nat.le_of_ble_eq_true rfl) ?_)
    | (refine sk_zero ?_)
    | (refine sk_succ ?_)
    | (refine wk_nil ?_)
    | (refine wk_cons ?_)
    | (refine vl_box rfl rfl ?_)
    | (refine vl_cq rfl (toWord_q (a := a.key)) ?_)
    | (refine vl_cq rfl (toWord_q (a := a.val)) ?_)
    | (refine VC.ret ?_))
  refine fnQ_r rfl (Mem.le_refl _) (q_end ?_)
  rfl
theorem toAct_q {M : Mem} {a : Act} : Qt Try.prog 67 [aa a] M (aa a) := by
  refine fn67 (by simp) ?_
  repeat' (first
    | (refine vl_pure rfl ?_)
    | (refine vl_nil ?_)
    | (refine VC.seq ?_)
    | (refine VC.regV ?_)
    | (refine vl_alloc ?_)
    | (refine vl_stw rfl rfl rfl rfl (by first | rfl | assumption) (Nat.le_of_ble_eq_true rfl) ?_)
    | (refine sk_zero ?_)
    | (refine sk_succ ?_)
    | (refine wk_nil ?_)
    | (refine wk_cons ?_)
    | (refine vl_box rfl rfl ?_)
    | (refine VC.ret ?_))
  refine fnQ_r rfl (Mem.le_refl _) (q_end ?_)
  rfl
/-- a row filled from the left -/
def fillL {α : Type} (z : α) (xs : List α) (i : Nat) : List α := xs.take i ++ List.replicate (xs.length - i) z
theorem fillL_zero {α : Type} (z : α) (xs : List α) : fillL z xs 0 = List.replicate xs.length z := by simp [fillL]
theorem fillL_all {α : Type} (z : α) (xs : List α) {i : Nat} (h : xs.length ≤ i) : fillL z xs i = xs := by
  unfold fillL; rw [List.take_of_length_le h, show xs.length - i = 0 by omega]; simp
theorem fillL_get {α : Type} {z : α} {xs : List α} {i : Nat} (h : i < xs.length) : (fillL z xs i)[i]? = some z := by
  unfold fillL
  rw [List.getElem?_append_right (by simp; omega), List.length_take, Nat.min_eq_left (by omega), Nat.sub_self]
  obtain ⟨n, hn⟩ : ∃ n, xs.length - i = n + 1 := ⟨xs.length - i - 1, by omega⟩
  rw [hn, List.replicate_succ, List.getElem?_cons_zero]
theorem fillL_set {α : Type} {z x : α} {xs : List α} {i : Nat} (h : xs[i]? = some x) : (fillL z xs i).set i x = fillL z xs (i + 1) := by
  have hi := (List.getElem?_eq_some_iff.1 h).1
  unfold fillL
  rw [List.set_append_right _ _ (by simp; omega), List.take_add_one, h]
  simp only [List.length_take, Nat.min_eq_left (Nat.le_of_lt hi), Nat.sub_self]
  obtain ⟨n, hn⟩ : ∃ n, xs.length - i = n + 1 := ⟨xs.length - i - 1, by omega⟩
  rw [hn, List.replicate_succ, List.set_cons_zero, show xs.length - (i + 1) = n by omega]
  simp
theorem fillL_len {α : Type} {z : α} {xs : List α} {i : Nat} (h : i ≤ xs.length) : (fillL z xs i).length = xs.length := by
  unfold fillL; simp; omega
theorem toWordS_f {M : Mem} {va : Value} {xs : List Word} (hn : xs.length ≤ 1048576) (ha : SlR M 3 wv va xs) : Fn Try.prog 92 [va] M (fun v M' => ∃ b, M b = none ∧ Off M b M' ∧ own v = [b] ∧ Sl M' 3 wv v xs) := by
  obtain ⟨aa, ca, ea⟩ := ha.len
  refine fn92 (by simp) ?_
  subst ea
  repeat' (first
    | (refine vl_pure rfl ?_)
    | (refine vl_nil ?_)
    | (refine VC.seq ?_)
    | (refine VC.regV ?_))
  refine vl_mks (f := wv) ⟨0, 0, 0⟩ (fun _ => rfl) rfl rfl rfl (Nat.le_refl _) (by omega) (by omega) (fun b M1 hMb hoff hsl => ?_)
  rw [← fillL_zero] at hsl
  repeat' (first
    | (refine vl_pure rfl ?_)
    | (refine vl_nil ?_)
    | (refine VC.seq ?_)
    | (refine VC.regV ?_)
    | (refine VC.block ?_))
  refine VC.loop (α := Nat) (fun i => [(0, .v (.slice aa xs.length ca)), (3, .v (.slice (some ⟨b, 0, none⟩) xs.length xs.length)), (4, .v (.int .i64 i))]) (fun k i M' => k = xs.length - i ∧ i ≤ xs.length ∧ Off M b M' ∧ Sl M' 3 wv (.slice (some ⟨b, 0, none⟩) xs.length xs.length) (fillL ⟨0, 0, 0⟩ xs i))
    ⟨_, 0, _, ⟨rfl, rfl, rfl, trivial⟩, Mem.le_refl _, rfl, Nat.zero_le _, hoff, hsl⟩ ?_
  rintro k i M2 ⟨rfl, hi, hoff, hsl⟩
  repeat' (first
    | (refine vl_pure rfl ?_)
    | (refine vl_nil ?_)
    | (refine VC.seq ?_)
    | (refine VC.regV ?_)
    | (refine seqQ_n ?_))
  refine VC.cond _ rfl (fun h => ?_) (fun h => ?_)
  · have hi : i < xs.length := by simpa using h
    obtain ⟨x, gx⟩ : ∃ x, xs[i]? = some x := ⟨_, List.getElem?_eq_getElem hi⟩
    obtain ⟨b1, o1, rfl, h1⟩ := (ha.le (hoff.le hMb)).at2 (fun _ => rfl) gx
    repeat' (first
      | (refine vl_pure rfl ?_)
      | (refine VC.seq ?_)
      | (refine VC.regV ?_)
      | (refine vl_idx rfl rfl (by omega) ?_)
      | (refine vl_lds rfl (by first | exact h1) ?_)
      | (refine vl_cq rfl (toWord_q) ?_)
      | (refine VC.block ?_)
      | (refine VC.skip ?_))
    refine vl_sts x hsl (fun _ => rfl) (fillL_get hi) (i := i) (j := 0) rfl rfl rfl rfl (Nat.le_of_ble_eq_true rfl) rfl (fun M3 o3 s3 => ?_)
    rw [fillL_set gx] at s3
    repeat' (first
      | (refine vl_add rfl rfl (by omega) ?_)
      | (refine vl_pure rfl ?_)
      | (refine vl_nil ?_)
      | (refine VC.regV ?_)
      | (refine seqQ_n ?_))
    refine ⟨_, i + 1, _, ?_, ⟨rfl, rfl, rfl, trivial⟩, Mem.le_refl _, rfl, hi, hoff.trans o3, s3⟩
    omega
  · have hi : ¬ i < xs.length := by simpa using h
    repeat' (first
      | (refine vl_pure rfl ?_)
      | (refine vl_nil ?_)
      | (refine VC.seq ?_)
      | (refine VC.regV ?_)
      | (refine VC.ret ?_)
      | (refine VC.exit ?_))
    refine fnQ_r rfl (Mem.le_refl _) ⟨b, hMb, hoff, rfl, ?_⟩
    rwa [fillL_all _ _ (by omega)] at hsl
theorem toPairS_f {M : Mem} {va : Value} {xs : List Pair} (hn : xs.length ≤ 1048576) (ha : SlR M 6 pv va xs) : Fn Try.prog 165 [va] M (fun v M' => ∃ b, M b = none ∧ Off M b M' ∧ own v = [b] ∧ Sl M' 6 pv v xs) := by
  obtain ⟨aa, ca, ea⟩ := ha.len
  refine fn165 (by simp) ?_
  subst ea
  repeat' (first
    | (refine vl_pure rfl ?_)
    | (refine vl_nil ?_)
    | (refine VC.seq ?_)
    | (refine VC.regV ?_))
  refine vl_mks (f := pv) ⟨⟨0, 0, 0⟩, ⟨0, 0, 0⟩⟩ (fun _ => rfl) rfl rfl rfl (Nat.le_refl _) (by omega) (by omega) (fun b M1 hMb hoff hsl => ?_)
  rw [← fillL_zero] at hsl
  repeat' (first
    | (refine vl_pure rfl ?_)
    | (refine vl_nil ?_)
    | (refine VC.seq ?_)
    | (refine VC.regV ?_)
    | (refine VC.block ?_))
  refine VC.loop (α := Nat) (fun i => [(0, .v (.slice aa xs.length ca)), (3, .v (.slice (some ⟨b, 0, none⟩) xs.length xs.length)), (4, .v (.int .i64 i))]) (fun k i M' => k = xs.length - i ∧ i ≤ xs.length ∧ Off M b M' ∧ Sl M' 6 pv (.slice (some ⟨b, 0, none⟩) xs.length xs.length) (fillL ⟨⟨0, 0, 0⟩, ⟨0, 0, 0⟩⟩ xs i))
    ⟨_, 0, _, ⟨rfl, rfl, rfl, trivial⟩, Mem.le_refl _, rfl, Nat.zero_le _, hoff, hsl⟩ ?_
  rintro k i M2 ⟨rfl, hi, hoff, hsl⟩
  repeat' (first
    | (refine vl_pure rfl ?_)
    | (refine vl_nil ?_)
    | (refine VC.seq ?_)
    | (refine VC.regV ?_)
    | (refine seqQ_n ?_))
  refine VC.cond _ rfl (fun h => ?_) (fun h => ?_)
  · have hi : i < xs.length := by simpa using h
    obtain ⟨x, gx⟩ : ∃ x, xs[i]? = some x := ⟨_, List.getElem?_eq_getElem hi⟩
    obtain ⟨b1, o1, rfl, h1⟩ := (ha.le (hoff.le hMb)).at2 (fun _ => rfl) gx
    repeat' (first
      | (refine vl_pure rfl ?_)
      | (refine VC.seq ?_)
      | (refine VC.regV ?_)
      | (refine vl_idx rfl rfl (by omega) ?_)
      | (refine vl_lds rfl (by first | exact h1) ?_)
      | (refine vl_cq rfl (toPair_q) ?_)
      | (refine VC.block ?_)
      | (refine VC.skip ?_))
    refine vl_sts x hsl (fun _ => rfl) (fillL_get hi) (i := i) (j := 0) rfl rfl rfl rfl (Nat.le_of_ble_eq_true rfl) rfl (fun M3 o3 s3 => ?_)
    rw [fillL_set gx] at s3
    repeat' (first
      | (refine vl_add rfl rfl (by omega) ?_)
      | (refine vl_pure rfl ?_)
      | (refine vl_nil ?_)
      | (refine VC.regV ?_)
      | (refine seqQ_n ?_))
    refine ⟨_, i + 1, _, ?_, ⟨rfl, rfl, rfl, trivial⟩, Mem.le_refl _, rfl, hi, hoff.trans o3, s3⟩
    omega
  · have hi : ¬ i < xs.length := by simpa using h
    repeat' (first
      | (refine vl_pure rfl ?_)
      | (refine vl_nil ?_)
      | (refine VC.seq ?_)
      | (refine VC.regV ?_)
      | (refine VC.ret ?_)
      | (refine VC.exit ?_))
    refine fnQ_r rfl (Mem.le_refl _) ⟨b, hMb, hoff, rfl, ?_⟩
    rwa [fillL_all _ _ (by omega)] at hsl
theorem toIntS_f {M : Mem} {va : Value} {xs : List Int} (hn : xs.length ≤ 1048576) (ha : SlR M 1 iv va xs) : Fn Try.prog 94 [va] M (fun v M' => ∃ b, M b = none ∧ Off M b M' ∧ own v = [b] ∧ Sl M' 1 iv v xs) := by
  obtain ⟨aa, ca, ea⟩ := ha.len
  refine fn94 (by simp) ?_
  subst ea
  repeat' (first
    | (refine vl_pure rfl ?_)
    | (refine vl_nil ?_)
    | (refine VC.seq ?_)
    | (refine VC.regV ?_))
  refine vl_mks (f := iv) 0 (fun _ => rfl) rfl rfl rfl (Nat.le_refl _) (by omega) (by omega) (fun b M1 hMb hoff hsl => ?_)
  rw [← fillL_zero] at hsl
  repeat' (first
    | (refine vl_pure rfl ?_)
    | (refine vl_nil ?_)
    | (refine VC.seq ?_)
    | (refine VC.regV ?_)
    | (refine VC.block ?_))
  refine VC.loop (α := Nat) (fun i => [(0, .v (.slice aa xs.length ca)), (3, .v (.slice (some ⟨b, 0, none⟩) xs.length xs.length)), (4, .v (.int .i64 i))]) (fun k i M' => k = xs.length - i ∧ i ≤ xs.length ∧ Off M b M' ∧ Sl M' 1 iv (.slice (some ⟨b, 0, none⟩) xs.length xs.length) (fillL 0 xs i))
    ⟨_, 0, _, ⟨rfl, rfl, rfl, trivial⟩, Mem.le_refl _, rfl, Nat.zero_le _, hoff, hsl⟩ ?_
  rintro k i M2 ⟨rfl, hi, hoff, hsl⟩
  repeat' (first
    | (refine vl_pure rfl ?_)
    | (refine vl_nil ?_)
    | (refine VC.seq ?_)
    | (refine VC.regV ?_)
    | (refine seqQ_n ?_))
  refine VC.cond _ rfl (fun h => ?_) (fun h => ?_)
  · have hi : i < xs.length := by simpa using h
    obtain ⟨x, gx⟩ : ∃ x, xs[i]? = some x := ⟨_, List.getElem?_eq_getElem hi⟩
    obtain ⟨b1, o1, rfl, h1⟩ := (ha.le (hoff.le hMb)).at2 (fun _ => rfl) gx
    repeat' (first
      | (refine vl_pure rfl ?_)
      | (refine vl_ld rfl (by first | exact cells_cell h1 (j := 0) rfl) ?_)
      | (refine VC.seq ?_)
      | (refine VC.regV ?_)
      | (refine vl_idx rfl rfl (by omega) ?_)
      | (refine VC.block ?_)
      | (refine VC.skip ?_))
    refine vl_sts x hsl (fun _ => rfl) (fillL_get hi) (i := i) (j := 0) rfl rfl rfl rfl (Nat.le_of_ble_eq_true rfl) rfl (fun M3 o3 s3 => ?_)
    rw [fillL_set gx] at s3
    repeat' (first
      | (refine vl_add rfl rfl (by omega) ?_)
      | (refine vl_pure rfl ?_)
      | (refine vl_nil ?_)
      | (refine VC.regV ?_)
      | (refine seqQ_n ?_))
    refine ⟨_, i + 1, _, ?_, ⟨rfl, rfl, rfl, trivial⟩, Mem.le_refl _, rfl, hi, hoff.trans o3, s3⟩
    omega
  · have hi : ¬ i < xs.length := by simpa using h
    repeat' (first
      | (refine vl_pure rfl ?_)
      | (refine vl_nil ?_)
      | (refine VC.seq ?_)
      | (refine VC.regV ?_)
      | (refine VC.ret ?_)
      | (refine VC.exit ?_))
    refine fnQ_r rfl (Mem.le_refl _) ⟨b, hMb, hoff, rfl, ?_⟩
    rwa [fillL_all _ _ (by omega)] at hsl
theorem toActS_f {M : Mem} {va : Value} {xs : List Act} (hn : xs.length ≤ 1048576) (ha : SlR M 5 av va xs) : Fn Try.prog 20 [va] M (fun v M' => ∃ b, M b = none ∧ Off M b M' ∧ own v = [b] ∧ Sl M' 5 av v xs) := by
  obtain ⟨aa, ca, ea⟩ := ha.len
  refine fn20 (by simp) ?_
  subst ea
  repeat' (first
    | (refine vl_pure rfl ?_)
    | (refine vl_nil ?_)
    | (refine VC.seq ?_)
    | (refine VC.regV ?_))
  refine vl_mks (f := av) ⟨0, 0, 0, 0, 0⟩ (fun _ => rfl) rfl rfl rfl (Nat.le_refl _) (by omega) (by omega) (fun b M1 hMb hoff hsl => ?_)
  rw [← fillL_zero] at hsl
  repeat' (first
    | (refine vl_pure rfl ?_)
    | (refine vl_nil ?_)
    | (refine VC.seq ?_)
    | (refine VC.regV ?_)
    | (refine VC.block ?_))
  refine VC.loop (α := Nat) (fun i => [(0, .v (.slice aa xs.length ca)), (3, .v (.slice (some ⟨b, 0, none⟩) xs.length xs.length)), (4, .v (.int .i64 i))]) (fun k i M' => k = xs.length - i ∧ i ≤ xs.length ∧ Off M b M' ∧ Sl M' 5 av (.slice (some ⟨b, 0, none⟩) xs.length xs.length) (fillL ⟨0, 0, 0, 0, 0⟩ xs i))
    ⟨_, 0, _, ⟨rfl, rfl, rfl, trivial⟩, Mem.le_refl _, rfl, Nat.zero_le _, hoff, hsl⟩ ?_
  rintro k i M2 ⟨rfl, hi, hoff, hsl⟩
  repeat' (first
    | (refine vl_pure rfl ?_)
    | (refine vl_nil ?_)
    | (refine VC.seq ?_)
    | (refine VC.regV ?_)
    | (refine seqQ_n ?_))
  refine VC.cond _ rfl (fun h => ?_) (fun h => ?_)
  · have hi : i < xs.length := by simpa using h
    obtain ⟨x, gx⟩ : ∃ x, xs[i]? = some x := ⟨_, List.getElem?_eq_getElem hi⟩
    obtain ⟨b1, o1, rfl, h1⟩ := (ha.le (hoff.le hMb)).at2 (fun _ => rfl) gx
    repeat' (first
      | (refine vl_pure rfl ?_)
      | (refine VC.seq ?_)
      | (refine VC.regV ?_)
      | (refine vl_idx rfl rfl (by omega) ?_)
      | (refine vl_lds rfl (by first | exact h1) ?_)
      | (refine vl_cq rfl (toAct_q) ?_)
      | (refine VC.block ?_)
      | (refine VC.skip ?_))
    refine vl_sts x hsl (fun _ => rfl) (fillL_get hi) (i := i) (j := 0) rfl rfl rfl rfl (Nat.le_of_ble_eq_true rfl) rfl (fun M3 o3 s3 => ?_)
    rw [fillL_set gx] at s3
    repeat' (first
      | (refine vl_add rfl rfl (by omega) ?_)
      | (refine vl_pure rfl ?_)
      | (refine vl_nil ?_)
      | (refine VC.regV ?_)
      | (refine seqQ_n ?_))
    refine ⟨_, i + 1, _, ?_, ⟨rfl, rfl, rfl, trivial⟩, Mem.le_refl _, rfl, hi, hoff.trans o3, s3⟩
    omega
  · have hi : ¬ i < xs.length := by simpa using h
    repeat' (first
      | (refine vl_pure rfl ?_)
      | (refine vl_nil ?_)
      | (refine VC.seq ?_)
      | (refine VC.regV ?_)
      | (refine VC.ret ?_)
      | (refine VC.exit ?_))
    refine fnQ_r rfl (Mem.le_refl _) ⟨b, hMb, hoff, rfl, ?_⟩
    rwa [fillL_all _ _ (by omega)] at hsl

end Go.Proofs.Ytcmllambknfleaa.E
/- The laws' sizes, copies and comparisons of cells and heaps. Conditions: none. -/
set_option linter.unusedVariables false
set_option linter.unusedSimpArgs false
set_option maxRecDepth 100000
namespace Go.Proofs.Ytcmllambknfleaa.E
open Go
open Classical
/-- cells in memory, each with its pairs -/
structure CL (M : Mem) (v : Value) (ys : List CS) : Prop where
  sl : Sl M 8 csv v ys
  ps : ∀ y, y ∈ ys → Sl M 6 pv y.s y.c.pairs
def fpC (v : Value) (ys : List CS) : List Nat := own v ++ ys.flatMap fun y => own y.s
/-- a heap and where it lies -/
structure HS where
  H : Heap
  rs : Value
  cs : Value
  gs : Value
  xs : List CS
def HS.v (x : HS) : Value := .agg (hv x.H x.rs x.cs x.gs).toArray
def HS.fp (x : HS) : List Nat := own x.rs ++ (fpC x.cs x.xs ++ own x.gs)
structure RHV (M : Mem) (x : HS) : Prop where
  regs : Sl M 3 wv x.rs x.H.regs
  cl : CL M x.cs x.xs
  eq : x.xs.map (·.c) = x.H.cells
  gray : Sl M 1 iv x.gs x.H.gray
/-- .. and what may be another's, to be read alone -/
structure CLR (M : Mem) (v : Value) (ys : List CS) : Prop where
  sl : SlR M 8 csv v ys
  ps : ∀ y, y ∈ ys → SlR M 6 pv y.s y.c.pairs
structure RHVR (M : Mem) (x : HS) : Prop where
  regs : SlR M 3 wv x.rs x.H.regs
  cl : CLR M x.cs x.xs
  eq : x.xs.map (·.c) = x.H.cells
  gray : SlR M 1 iv x.gs x.H.gray
structure WHV (M : Mem) (x : HS) : Prop where
  r : RHV M x
  nd : x.fp.Nodup
/-- memory is as it was but for some blocks -/
def OffL (M : Mem) (L : List Nat) (M' : Mem) : Prop := ∀ b k, M b = some k → b ∉ L → M' b = some k
theorem Sl.own_some {M : Mem} {α : Type} {f : α → List Value} {size : Nat} {v : Value} {xs : List α} (h : Sl M size f v xs) {c : Nat} (hc : c ∈ own v) : M c ≠ none := by
  rcases h with ⟨c, rfl, _⟩ | ⟨b, o, cap, row, rfl, hM, _⟩
  · simp [own] at hc
  · simp [own] at hc; subst hc; rw [hM]; simp
theorem Sl.offL {M M' : Mem} {α : Type} {f : α → List Value} {size : Nat} {v : Value} {xs : List α} {L : List Nat} (h : Sl M size f v xs) (o : OffL M L M') (hb : ∀ b, b ∈ own v → b ∉ L) : Sl M' size f v xs := by
  rcases h with h | ⟨b', o', cap, row, rfl, hM, h3⟩
  · exact .inl h
  · exact .inr ⟨b', o', cap, row, rfl, o _ _ hM (hb _ (by simp [own])), h3⟩
theorem CL.le {M M' : Mem} {v : Value} {ys : List CS} (h : CL M v ys) (l : M.le M') : CL M' v ys := ⟨h.sl.le l, fun y hy => (h.ps y hy).le l⟩
theorem CLR.le {M M' : Mem} {v : Value} {ys : List CS} (h : CLR M v ys) (l : M.le M') : CLR M' v ys := ⟨h.sl.le l, fun y hy => (h.ps y hy).le l⟩
theorem RHVR.le {M M' : Mem} {x : HS} (h : RHVR M x) (l : M.le M') : RHVR M' x := ⟨h.regs.le l, h.cl.le l, h.eq, h.gray.le l⟩
theorem RHV.le {M M' : Mem} {x : HS} (h : RHV M x) (l : M.le M') : RHV M' x := ⟨h.regs.le l, h.cl.le l, h.eq, h.gray.le l⟩
theorem WHV.le {M M' : Mem} {x : HS} (h : WHV M x) (l : M.le M') : WHV M' x := ⟨h.r.le l, h.nd⟩
theorem RHV.fp_some {M : Mem} {x : HS} (h : RHV M x) {b : Nat} (hb : b ∈ x.fp) : M b ≠ none := by
  simp only [HS.fp, fpC, List.mem_append, List.mem_flatMap] at hb
  rcases hb with hb | (hb | ⟨y, hy, hb⟩) | hb
  · exact h.regs.own_some hb
  · exact h.cl.sl.own_some hb
  · exact (h.cl.ps y hy).own_some hb
  · exact h.gray.own_some hb
theorem RHV.offL {M M' : Mem} {x : HS} {L : List Nat} (h : RHV M x) (o : OffL M L M') (hb : ∀ b, b ∈ x.fp → b ∉ L) : RHV M' x where
  regs := h.regs.offL o fun b m => hb b (by simp [HS.fp, m])
  cl := ⟨h.cl.sl.offL o fun b m => hb b (by simp [HS.fp, fpC, m]), fun y hy => (h.cl.ps y hy).offL o fun b m => hb b (by
    simp only [HS.fp, fpC, List.mem_append, List.mem_flatMap]; exact .inr (.inl (.inr ⟨y, hy, m⟩)))⟩
  eq := h.eq
  gray := h.gray.offL o fun b m => hb b (by simp [HS.fp, m])
theorem WHV.offL {M M' : Mem} {x : HS} {L : List Nat} (h : WHV M x) (o : OffL M L M') (hb : ∀ b, b ∈ x.fp → b ∉ L) : WHV M' x := ⟨h.r.offL o hb, h.nd⟩

theorem eqHeap_q {M : Mem} {x y : HS} (hx : RHV M x) (hy : RHV M y) : Qt Try.prog 27 [x.v, y.v] M (.bool (decide (x.H = y.H))) := by
  refine fn27 (by simp) ?_
  repeat' (first
    | (refine vl_pure rfl ?_)
    | (refine vl_nil ?_)
    | (refine VC.seq ?_)
    | (refine VC.regV ?_)
    | (refine vl_box rfl rfl ?_)
    | (refine vl_cq rfl (eqWordS_q hx.regs hy.regs) ?_)
    | (refine vl_cq rfl (eqCellS_q hx.cl.sl hy.cl.sl hx.cl.ps hy.cl.ps) ?_)
    | (refine vl_cq rfl (eqIntS_q hx.gray hy.gray) ?_)
    | (refine VC.ret ?_)
    | (refine VC.skip ?_)
    | (refine seqQ_n ?_)
    | (refine seqQ_r ?_)
    | (refine VC.cond _ rfl (fun hb => ?_) (fun hb => ?_)))
  all_goals (refine fnQ_r rfl (Mem.le_refl _) (q_end ?_))
  all_goals (obtain ⟨⟨⟩, _, _, _, _⟩ := x; obtain ⟨⟨⟩, _, _, _, _⟩ := y; have e1 := hx.eq; have e2 := hy.eq; simp_all)
/-- what counts against the laws' bound -/
def Heap.bulk (H : Heap) : Int := H.regs.length + (H.cells.length + pairsN H.cells) + H.gray.length
theorem szHeap_q {M : Mem} {x : HS} {l : Int} (h0 : 0 ≤ l) (h1 : l ≤ 1048576) (hx : RHVR M x) : Qt Try.prog 30 [x.v, .int .i64 l] M (.int .i64 (if x.H.bulk ≤ l then l - x.H.bulk else -1)) := by
  have hl : (x.xs.length : Int) = x.H.cells.length := by rw [← hx.eq]; simp
  have e := hx.eq
  have hnn := pairsN_nonneg x.H.cells
  unfold Heap.bulk
  refine fn30 (by simp) ?_
  by_cases g1 : (x.H.regs.length : Int) ≤ l
  · have q1 := szWordS_q h0 h1 hx.regs
    rw [if_pos g1] at q1
    have q2 := szCellS_q (l := l - x.H.regs.length) (by omega) (by omega) hx.cl.sl hx.cl.ps
    rw [e, hl] at q2
    by_cases g2 : (x.H.cells.length : Int) + pairsN x.H.cells ≤ l - x.H.regs.length
    · rw [if_pos g2] at q2
      have q3 := szIntS_q (l := l - x.H.regs.length - (x.H.cells.length + pairsN x.H.cells)) (by omega) (by omega) hx.gray
      repeat' (first
        | (refine vl_pure rfl ?_)
        | (refine vl_nil ?_)
        | (refine VC.seq ?_)
        | (refine VC.regV ?_)
        | (refine vl_box rfl rfl ?_)
        | (refine vl_cq rfl (q1) ?_)
        | (refine vl_cq rfl (q2) ?_)
        | (refine vl_cq rfl (q3) ?_)
        | (refine VC.ret ?_)
        | (refine VC.skip ?_)
        | (refine seqQ_n ?_)
        | (refine seqQ_r ?_)
        | (refine VC.cond _ rfl (fun hb => ?_) (fun hb => ?_)))
      all_goals (refine fnQ_r rfl (Mem.le_refl _) (q_end ?_))
      all_goals simp only [decide_eq_true_eq, decide_eq_false_iff_not] at *
      · omega
      · omega
      · by_cases g3 : (x.H.gray.length : Int) ≤ l - x.H.regs.length - (x.H.cells.length + pairsN x.H.cells)
        · rw [if_pos g3] at *; omega
        · rw [if_neg (by omega)]
      · by_cases g3 : (x.H.gray.length : Int) ≤ l - x.H.regs.length - (x.H.cells.length + pairsN x.H.cells)
        · rw [if_pos g3, if_pos (by omega)]; congr 1; omega
        · rw [if_neg g3] at *; omega
    · rw [if_neg g2] at q2
      repeat' (first
        | (refine vl_pure rfl ?_)
        | (refine vl_nil ?_)
        | (refine VC.seq ?_)
        | (refine VC.regV ?_)
        | (refine vl_box rfl rfl ?_)
        | (refine vl_cq rfl (q1) ?_)
        | (refine vl_cq rfl (q2) ?_)
        | (exact absurd hb (by decide))
        | (refine VC.ret ?_)
        | (refine VC.skip ?_)
        | (refine seqQ_n ?_)
        | (refine seqQ_r ?_)
        | (refine VC.cond _ rfl (fun hb => ?_) (fun hb => ?_)))
      all_goals (refine fnQ_r rfl (Mem.le_refl _) (q_end ?_))
      all_goals simp only [decide_eq_true_eq, decide_eq_false_iff_not] at *
      · omega
      · rw [if_neg (by omega)]
  · have q1 := szWordS_q h0 h1 hx.regs
    rw [if_neg g1] at q1
    repeat' (first
      | (refine vl_pure rfl ?_)
      | (refine vl_nil ?_)
      | (refine VC.seq ?_)
      | (refine VC.regV ?_)
      | (refine vl_box rfl rfl ?_)
      | (refine vl_cq rfl (q1) ?_)
      | (exact absurd hb (by decide))
      | (refine VC.ret ?_)
      | (refine seqQ_n ?_)
      | (refine seqQ_r ?_)
      | (refine VC.cond _ rfl (fun hb => ?_) (fun hb => ?_)))
    all_goals (refine fnQ_r rfl (Mem.le_refl _) (q_end ?_))
    rw [if_neg (by omega)]
theorem toCell_f {M : Mem} {x : CS} (hn : x.c.pairs.length ≤ 1048576) (ha : SlR M 6 pv x.s x.c.pairs) : Fn Try.prog 140 [ca x] M (fun v M' => ∃ b y, v = ca y ∧ y.c = x.c ∧ M b = none ∧ Off M b M' ∧ own y.s = [b] ∧ Sl M' 6 pv y.s y.c.pairs) := by
  refine fn140 (by simp) ?_
  repeat' (first
    | (refine vl_pure rfl ?_)
    | (refine vl_nil ?_)
    | (refine VC.seq ?_)
    | (refine VC.regV ?_)
    | (refine vl_alloc ?_)
    | (refine vl_stw rfl rfl rfl rfl (by first | rfl | assumption) (Nat.le_of_ble_eq_true rfl) ?_)
    | (refine sk_zero ?_)
    | (refine sk_succ ?_)
    | (refine wk_nil ?_)
    | (refine wk_cons ?_)
    | (refine vl_box rfl rfl ?_))
  refine vl_c rfl (toPairS_f hn ha) (fun v M1 hq => ?_)
  obtain ⟨b, hb, ho, hw, hs⟩ := hq
  obtain ⟨sa, cap, rfl⟩ := hs.len
  repeat' (first
    | (refine vl_pure rfl ?_)
    | (refine vl_nil ?_)
    | (refine VC.seq ?_)
    | (refine VC.regV ?_)
    | (refine vl_stw rfl rfl rfl rfl (by first | rfl | assumption) (Nat.le_of_ble_eq_true rfl) ?_)
    | (refine sk_zero ?_)
    | (refine sk_succ ?_)
    | (refine wk_nil ?_)
    | (refine wk_cons ?_)
    | (refine VC.ret ?_))
  exact fnQ_r rfl (Mem.le_refl _) ⟨b, ⟨x.c, sa, cap⟩, rfl, rfl, hb, ho, hw, hs⟩
theorem grow_get {α : Type} {z : α} {ys : List α} {n i : Nat} (hl : ys.length = i) (hi : i < n) : (ys ++ List.replicate (n - i) z)[i]? = some z := by
  subst hl
  rw [List.getElem?_append_right (Nat.le_refl _), Nat.sub_self]
  obtain ⟨m, hm⟩ : ∃ m, n - ys.length = m + 1 := ⟨n - ys.length - 1, by omega⟩
  rw [hm, List.replicate_succ, List.getElem?_cons_zero]
theorem grow_set {α : Type} {z y : α} {ys : List α} {n i : Nat} (hl : ys.length = i) (hi : i < n) : (ys ++ List.replicate (n - i) z).set i y = (ys ++ [y]) ++ List.replicate (n - (i + 1)) z := by
  subst hl
  rw [List.set_append_right _ _ (Nat.le_refl _), Nat.sub_self]
  obtain ⟨m, hm⟩ : ∃ m, n - ys.length = m + 1 := ⟨n - ys.length - 1, by omega⟩
  rw [hm, List.replicate_succ, List.set_cons_zero, show n - (ys.length + 1) = m by omega]
  simp
def zCS : CS := ⟨⟨0, 0, 0, 0, 0, 0, 0, []⟩, none, 0⟩
theorem toCellS_f {M : Mem} {va : Value} {xs : List CS} (hn : xs.length ≤ 1048576) (hp : ∀ x, x ∈ xs → x.c.pairs.length ≤ 1048576) (ha : CLR M va xs) :
    Fn Try.prog 93 [va] M (fun v M' => ∃ ys : List CS, ys.map (·.c) = xs.map (·.c) ∧ CL M' v ys ∧ (fpC v ys).Nodup ∧ (∀ b, b ∈ fpC v ys → M b = none) ∧ M.le M') := by
  obtain ⟨aa, ca, ea⟩ := ha.sl.len
  refine fn93 (by simp) ?_
  subst ea
  repeat' (first
    | (refine vl_pure rfl ?_)
    | (refine vl_nil ?_)
    | (refine VC.seq ?_)
    | (refine VC.regV ?_))
  refine vl_mks (f := csv) zCS (fun _ => rfl) rfl rfl rfl (Nat.le_refl _) (by omega) (by omega) (fun b M1 hMb hoff hsl => ?_)
  repeat' (first
    | (refine vl_pure rfl ?_)
    | (refine vl_nil ?_)
    | (refine VC.seq ?_)
    | (refine VC.regV ?_)
    | (refine VC.block ?_))
  refine VC.loop (α := Nat) (fun i => [(0, .v (.slice aa xs.length ca)), (3, .v (.slice (some ⟨b, 0, none⟩) xs.length xs.length)), (4, .v (.int .i64 i))])
    (fun k i M' => k = xs.length - i ∧ i ≤ xs.length ∧ M.le M' ∧ ∃ ys : List CS, ys.length = i ∧ ys.map (·.c) = (xs.map (·.c)).take i ∧ Sl M' 8 csv (.slice (some ⟨b, 0, none⟩) xs.length xs.length) (ys ++ List.replicate (xs.length - i) zCS) ∧
      (b :: ys.flatMap fun y => own y.s).Nodup ∧ (∀ c, c ∈ (ys.flatMap fun y => own y.s) → M c = none) ∧ ∀ y, y ∈ ys → Sl M' 6 pv y.s y.c.pairs)
    ⟨_, 0, _, ⟨rfl, rfl, rfl, trivial⟩, Mem.le_refl _, rfl, Nat.zero_le _, hoff.le hMb, [], rfl, rfl, hsl, by simp, by simp, by simp⟩ ?_
  rintro k i M2 ⟨rfl, hi, hle, ys, hyl, hyc, hsl, hnd, hfr, hps⟩
  repeat' (first
    | (refine vl_pure rfl ?_)
    | (refine vl_nil ?_)
    | (refine VC.seq ?_)
    | (refine VC.regV ?_)
    | (refine seqQ_n ?_))
  refine VC.cond _ rfl (fun h => ?_) (fun h => ?_)
  · have hi : i < xs.length := by simpa using h
    obtain ⟨x, gx⟩ : ∃ x, xs[i]? = some x := ⟨_, List.getElem?_eq_getElem hi⟩
    have hxm := List.mem_of_getElem? gx
    obtain ⟨b1, o1, rfl, h1⟩ := (ha.sl.le hle).at2 (fun _ => rfl) gx
    repeat' (first
      | (refine vl_pure rfl ?_)
      | (refine VC.seq ?_)
      | (refine VC.regV ?_)
      | (refine vl_idx rfl rfl (by omega) ?_)
      | (refine vl_lds rfl (by first | exact h1) ?_)
      | (refine VC.block ?_)
      | (refine VC.skip ?_))
    refine vl_c rfl (toCell_f (hp x hxm) ((ha.ps x hxm).le hle)) (fun v M3 hq => ?_)
    obtain ⟨b', y, rfl, hyx, hb', ho', hw', hs'⟩ := hq
    repeat' (first
      | (refine vl_idx rfl rfl (by omega) ?_))
    have hs3 := hsl.le (ho'.le hb')
    refine vl_sts y hs3 (fun _ => rfl) (grow_get hyl hi) (i := i) (j := 0) rfl rfl rfl rfl (Nat.le_of_ble_eq_true rfl) rfl (fun M4 o4 s4 => ?_)
    rw [grow_set hyl hi] at s4
    have hMb2 : M2 b ≠ none := hsl.own_some (by simp [own])
    have hbb : b' ≠ b := fun e => hMb2 (by rw [← e]; exact hb')
    have hold : ∀ c, c ∈ (ys.flatMap fun y => own y.s) → M2 c ≠ none := by
      intro c hc
      obtain ⟨y', hy', hc'⟩ := List.mem_flatMap.1 hc
      exact (hps y' hy').own_some hc'
    repeat' (first
      | (refine vl_add rfl rfl (by omega) ?_)
      | (refine vl_pure rfl ?_)
      | (refine vl_nil ?_)
      | (refine VC.regV ?_)
      | (refine seqQ_n ?_))
    refine ⟨_, i + 1, _, ?_, ⟨rfl, rfl, rfl, trivial⟩, Mem.le_refl _, rfl, hi, ?_, ys ++ [y], by simp [hyl], ?_, s4, ?_, ?_, ?_⟩
    · omega
    · exact o4.keep (Mem.le_trans hle (ho'.le hb')) hMb
    · rw [List.map_append, hyc, List.take_add_one, List.getElem?_map, gx]; simp [hyx]
    · rw [List.flatMap_append, ← List.cons_append]
      refine List.nodup_append.2 ⟨hnd, by simp [hw'], ?_⟩
      intro c hc d hd e
      simp only [List.flatMap_cons, List.flatMap_nil, List.append_nil, hw', List.mem_singleton] at hd
      subst hd; subst e
      rcases List.mem_cons.1 hc with e | hc
      · exact hbb e
      · exact hold _ hc hb'
    · intro c hc
      rw [List.flatMap_append, List.mem_append] at hc
      rcases hc with hc | hc
      · exact hfr c hc
      · simp only [List.flatMap_cons, List.flatMap_nil, List.append_nil, hw', List.mem_singleton] at hc
        subst hc; exact none_of_le hle hb'
    · intro y' hy'
      rcases List.mem_append.1 hy' with hy' | hy'
      · refine ((hps y' hy').le (ho'.le hb')).off o4 fun hm => ?_
        exact (List.nodup_cons.1 hnd).1 (List.mem_flatMap.2 ⟨y', hy', hm⟩)
      · simp only [List.mem_singleton] at hy'
        subst hy'
        exact hs'.off o4 (by rw [hw']; simpa using hbb.symm)
  · have hi : ¬ i < xs.length := by simpa using h
    have e : i = xs.length := by omega
    subst e
    repeat' (first
      | (refine vl_pure rfl ?_)
      | (refine vl_nil ?_)
      | (refine VC.seq ?_)
      | (refine VC.regV ?_)
      | (refine VC.ret ?_)
      | (refine VC.exit ?_))
    rw [Nat.sub_self, List.replicate_zero, List.append_nil] at hsl
    rw [List.take_of_length_le (by simp)] at hyc
    refine fnQ_r rfl (Mem.le_refl _) ⟨ys, hyc, ⟨hsl, hps⟩, hnd, ?_, hle⟩
    intro c hc
    rcases List.mem_cons.1 hc with e | hc
    · subst e; exact hMb
    · exact hfr c hc
theorem pairs_bulk {cs : List Cell} {c : Cell} (h : c ∈ cs) : (c.pairs.length : Int) ≤ pairsN cs := by
  induction cs with
  | nil => cases h
  | cons d r ih =>
    have e : pairsN (d :: r) = d.pairs.length + pairsN r := by simp [pairsN]
    have := pairsN_nonneg r
    rcases List.mem_cons.1 h with rfl | h
    · omega
    · have := ih h; omega
theorem toHeap_f {M : Mem} {x : HS} (hb : x.H.bulk ≤ 1048576) (hx : RHVR M x) :
    Fn Try.prog 32 [x.v] M (fun v M' => ∃ y : HS, v = y.v ∧ y.H = x.H ∧ WHV M' y ∧ (∀ b, b ∈ y.fp → M b = none) ∧ M.le M') := by
  have hl : x.xs.length = x.H.cells.length := by rw [← hx.eq]; simp
  have hnn := pairsN_nonneg x.H.cells
  unfold Heap.bulk at hb
  refine fn32 (by simp) ?_
  repeat' (first
    | (refine vl_pure rfl ?_)
    | (refine vl_nil ?_)
    | (refine VC.seq ?_)
    | (refine VC.regV ?_)
    | (refine vl_alloc ?_)
    | (refine vl_stw rfl rfl rfl rfl (by first | rfl | assumption) (Nat.le_of_ble_eq_true rfl) ?_)
    | (refine sk_zero ?_)
    | (refine sk_succ ?_)
    | (refine wk_nil ?_)
    | (refine wk_cons ?_)
    | (refine vl_box rfl rfl ?_))
  refine vl_c rfl (toWordS_f (by omega) hx.regs) (fun v M1 hq => ?_)
  obtain ⟨b1, hb1, ho1, hw1, hs1⟩ := hq
  obtain ⟨sa1, cap1, rfl⟩ := hs1.len
  repeat' (first
    | (refine vl_pure rfl ?_)
    | (refine vl_nil ?_)
    | (refine VC.seq ?_)
    | (refine VC.regV ?_)
    | (refine vl_stw rfl rfl rfl rfl (by first | rfl | assumption) (Nat.le_of_ble_eq_true rfl) ?_)
    | (refine sk_zero ?_)
    | (refine sk_succ ?_)
    | (refine wk_nil ?_)
    | (refine wk_cons ?_))
  have hx1 := hx.le (ho1.le hb1)
  refine vl_c rfl (toCellS_f (by omega) (fun y hy => ?_) hx1.cl) (fun v M2 hq => ?_)
  · have := pairs_bulk (cs := x.H.cells) (c := y.c) (by rw [← hx.eq]; exact List.mem_map_of_mem hy)
    omega
  obtain ⟨ys, hyc, hcl, hnd, hfr, hle⟩ := hq
  obtain ⟨sa2, cap2, rfl⟩ := hcl.sl.len
  repeat' (first
    | (refine vl_pure rfl ?_)
    | (refine vl_nil ?_)
    | (refine VC.seq ?_)
    | (refine VC.regV ?_)
    | (refine vl_stw rfl rfl rfl rfl (by first | rfl | assumption) (Nat.le_of_ble_eq_true rfl) ?_)
    | (refine sk_zero ?_)
    | (refine sk_succ ?_)
    | (refine wk_nil ?_)
    | (refine wk_cons ?_))
  have hx2 := hx1.le hle
  refine vl_c rfl (toIntS_f (by omega) hx2.gray) (fun v M3 hq => ?_)
  obtain ⟨b3, hb3, ho3, hw3, hs3⟩ := hq
  obtain ⟨sa3, cap3, rfl⟩ := hs3.len
  repeat' (first
    | (refine vl_pure rfl ?_)
    | (refine vl_nil ?_)
    | (refine VC.seq ?_)
    | (refine VC.regV ?_)
    | (refine vl_stw rfl rfl rfl rfl (by first | rfl | assumption) (Nat.le_of_ble_eq_true rfl) ?_)
    | (refine sk_zero ?_)
    | (refine sk_succ ?_)
    | (refine wk_nil ?_)
    | (refine wk_cons ?_)
    | (refine VC.ret ?_))
  refine fnQ_r rfl (Mem.le_refl _) ⟨⟨x.H, .slice sa1 x.H.regs.length cap1, .slice sa2 ys.length cap2, .slice sa3 x.H.gray.length cap3, ys⟩, rfl, rfl, ⟨⟨(hs1.le hle).le (ho3.le hb3), hcl.le (ho3.le hb3), ?_, hs3⟩, ?_⟩, ?_, Mem.le_trans (Mem.le_trans (ho1.le hb1) hle) (ho3.le hb3)⟩
  · rw [hyc, hx.eq]
  · simp only [HS.fp, hw1, hw3]
    have h2 : ∀ b, b ∈ fpC (.slice sa2 ys.length cap2) ys → M2 b ≠ none := by
      intro b hb
      simp only [fpC, List.mem_append, List.mem_flatMap] at hb
      rcases hb with hb | ⟨y, hy, hb⟩
      · exact hcl.sl.own_some hb
      · exact (hcl.ps y hy).own_some hb
    have h1 : M1 b1 ≠ none := hs1.own_some (by rw [hw1]; simp)
    refine List.nodup_append.2 ⟨by simp, List.nodup_append.2 ⟨hnd, by simp, ?_⟩, ?_⟩
    · intro c hc d hd e
      simp only [List.mem_singleton] at hd
      subst hd; subst e
      exact h2 _ hc hb3
    · intro c hc d hd e
      simp only [List.mem_singleton] at hc
      subst hc; subst e
      rcases List.mem_append.1 hd with hd | hd
      · exact h1 (hfr _ hd)
      · simp only [List.mem_singleton] at hd
        subst hd
        exact h1 (none_of_le hle hb3)
  · intro b hb
    simp only [HS.fp, hw1, hw3, List.mem_append, List.mem_singleton] at hb
    rcases hb with rfl | hb | rfl
    · exact hb1
    · exact none_of_le (ho1.le hb1) (hfr b hb)
    · exact none_of_le (ho1.le hb1) (none_of_le hle hb3)
end Go.Proofs.Ytcmllambknfleaa.E
/- A heap that was handed in, opened. Conditions: none. -/
set_option linter.unusedVariables false
set_option linter.unusedSimpArgs false
set_option maxRecDepth 100000
namespace Go.Proofs.Ytcmllambknfleaa.E
open Go Go.ChangeShapes Go.WideShapes Go.ChangeAt Go.RowKit
instance : Inhabited Word := ⟨⟨0, 0, 0⟩⟩
instance : Inhabited Pair := ⟨⟨default, default⟩⟩
instance : Inhabited CS := ⟨⟨⟨0, 0, 0, 0, 0, 0, 0, []⟩, none, 0⟩⟩
theorem und_word : Try.prog.underlying 49 = some (.struct (fsOf Try.prog 49)) := by kernel_rfl
theorem fs_word : (fsOf Try.prog 49).toList.map (fun f => (f.type, f.offset)) = [(3, 0), (2, 1), (3, 2)] := by kernel_rfl
theorem cof_word : Try.prog.cellsOf 49 = 3 := by kernel_rfl
theorem und_pair : Try.prog.underlying 148 = some (.struct (fsOf Try.prog 148)) := by kernel_rfl
theorem fs_pair : (fsOf Try.prog 148).toList.map (fun f => (f.type, f.offset)) = [(49, 0), (49, 3)] := by kernel_rfl
theorem cof_pair : Try.prog.cellsOf 148 = 6 := by kernel_rfl
theorem und_cell : Try.prog.underlying 123 = some (.struct (fsOf Try.prog 123)) := by kernel_rfl
theorem fs_cell : (fsOf Try.prog 123).toList.map (fun f => (f.type, f.offset)) = [(3, 0), (3, 1), (3, 2), (3, 3), (3, 4), (3, 5), (3, 6), (121, 7)] := by kernel_rfl
theorem cof_cell : Try.prog.cellsOf 123 = 8 := by kernel_rfl
theorem und_heap : Try.prog.underlying 43 = some (.struct (fsOf Try.prog 43)) := by kernel_rfl
theorem fs_heap : (fsOf Try.prog 43).toList.map (fun f => (f.type, f.offset)) = [(3, 0), (3, 1), (3, 2), (40, 3), (41, 4), (3, 5), (3, 6), (3, 7), (33, 8), (3, 9), (3, 10), (3, 11), (3, 12)] := by kernel_rfl
theorem cof_heap : Try.prog.cellsOf 43 = 13 := by kernel_rfl
theorem und_words : Try.prog.underlying 40 = some (.slice 49) := by kernel_rfl
theorem und_pairs : Try.prog.underlying 121 = some (.slice 148) := by kernel_rfl
theorem und_cells : Try.prog.underlying 41 = some (.slice 123) := by kernel_rfl
theorem und_ints : Try.prog.underlying 33 = some (.slice 3) := by kernel_rfl
theorem cof_words : Try.prog.cellsOf 40 = 1 := by kernel_rfl
theorem cof_pairs : Try.prog.cellsOf 121 = 1 := by kernel_rfl
theorem cof_cells : Try.prog.cellsOf 41 = 1 := by kernel_rfl
theorem cof_ints : Try.prog.cellsOf 33 = 1 := by kernel_rfl
section
variable {H : Type} {enc : TypeId × Value → H} {W : World} {spare : Nat → Bool} {held : Bool}
theorem open_word : ∀ n cs y, DataW.trod enc Try.prog W 0 spare held n 49 cs = some y → ∃ x : Word, cs = wv x ∧ True := by
  intro n cs y h
  obtain ⟨hl, m, hf⟩ := open_struct und_word fs_word h
  rw [cof_word] at hl
  obtain ⟨_, h0⟩ := hf 0 _ _ rfl
  obtain ⟨_, h1⟩ := hf 1 _ _ rfl
  obtain ⟨_, h2⟩ := hf 2 _ _ rfl
  obtain ⟨a, ha⟩ := open_i h0
  obtain ⟨b, hb⟩ := open_i64 h1
  obtain ⟨c, hc⟩ := open_i h2
  refine ⟨⟨a, b, c⟩, ?_, trivial⟩
  match cs, hl with
  | [v0, v1, v2], _ =>
    simp at ha hb hc
    subst ha; subst hb; subst hc; rfl
theorem open_pair : ∀ n cs y, DataW.trod enc Try.prog W 0 spare held n 148 cs = some y → ∃ x : Pair, cs = pv x ∧ True := by
  intro n cs y h
  obtain ⟨hl, m, hf⟩ := open_struct und_pair fs_pair h
  rw [cof_pair] at hl
  obtain ⟨_, h0⟩ := hf 0 _ _ rfl
  obtain ⟨_, h1⟩ := hf 1 _ _ rfl
  rw [cof_word] at h0 h1
  obtain ⟨a, ha, _⟩ := open_word _ _ _ h0
  obtain ⟨b, hb, _⟩ := open_word _ _ _ h1
  refine ⟨⟨a, b⟩, ?_, trivial⟩
  match cs, hl with
  | [v0, v1, v2, v3, v4, v5], _ =>
    simp [wv] at ha hb
    obtain ⟨rfl, rfl, rfl⟩ := ha
    obtain ⟨rfl, rfl, rfl⟩ := hb
    rfl
theorem open_int1 : ∀ n cs y, DataW.trod enc Try.prog W 0 spare held n 3 cs = some y → ∃ x : Int, cs = iv x ∧ True := by
  intro n cs y h
  obtain ⟨k, e, _⟩ := DataW.trod_int und_int h
  exact ⟨k, e, trivial⟩
theorem open_cell : ∀ n cs y, DataW.trod enc Try.prog W 0 spare held n 123 cs = some y → ∃ x : CS, cs = csv x ∧ SlR (memOf W) 6 pv x.s x.c.pairs := by
  intro n cs y h
  obtain ⟨hl, m, hf⟩ := open_struct und_cell fs_cell h
  rw [cof_cell] at hl
  obtain ⟨_, h0⟩ := hf 0 _ _ rfl
  obtain ⟨_, h1⟩ := hf 1 _ _ rfl
  obtain ⟨_, h2⟩ := hf 2 _ _ rfl
  obtain ⟨_, h3⟩ := hf 3 _ _ rfl
  obtain ⟨_, h4⟩ := hf 4 _ _ rfl
  obtain ⟨_, h5⟩ := hf 5 _ _ rfl
  obtain ⟨_, h6⟩ := hf 6 _ _ rfl
  obtain ⟨_, h7⟩ := hf 7 _ _ rfl
  obtain ⟨a0, e0⟩ := open_i h0
  obtain ⟨a1, e1⟩ := open_i h1
  obtain ⟨a2, e2⟩ := open_i h2
  obtain ⟨a3, e3⟩ := open_i h3
  obtain ⟨a4, e4⟩ := open_i h4
  obtain ⟨a5, e5⟩ := open_i h5
  obtain ⟨a6, e6⟩ := open_i h6
  rw [cof_pairs] at h7
  obtain ⟨v, ps, e7, hs, _⟩ := open_sl (f := pv) (Q := fun _ => True) (fun _ => rfl) (by omega) und_pairs cof_pair open_pair h7
  obtain ⟨sa, cap, rfl⟩ := hs.len
  have e7 := take_one e7
  refine ⟨⟨⟨a0, a1, a2, a3, a4, a5, a6, ps⟩, sa, cap⟩, ?_, hs⟩
  match cs, hl with
  | [v0, v1, v2, v3, v4, v5, v6, v7], _ =>
    simp at e0 e1 e2 e3 e4 e5 e6 e7
    subst e0; subst e1; subst e2; subst e3; subst e4; subst e5; subst e6; subst e7; rfl
theorem open_heap {n : Nat} {cs : List Value} {y : DataW H × List MemPlace} (h : DataW.trod enc Try.prog W 0 spare held n 43 cs = some y) : ∃ x : HS, cs = hv x.H x.rs x.cs x.gs ∧ RHVR (memOf W) x := by
  obtain ⟨hl, m, hf⟩ := open_struct und_heap fs_heap h
  rw [cof_heap] at hl
  obtain ⟨_, h0⟩ := hf 0 _ _ rfl
  obtain ⟨_, h1⟩ := hf 1 _ _ rfl
  obtain ⟨_, h2⟩ := hf 2 _ _ rfl
  obtain ⟨_, h3⟩ := hf 3 _ _ rfl
  obtain ⟨_, h4⟩ := hf 4 _ _ rfl
  obtain ⟨_, h5⟩ := hf 5 _ _ rfl
  obtain ⟨_, h6⟩ := hf 6 _ _ rfl
  obtain ⟨_, h7⟩ := hf 7 _ _ rfl
  obtain ⟨_, h8⟩ := hf 8 _ _ rfl
  obtain ⟨_, h9⟩ := hf 9 _ _ rfl
  obtain ⟨_, h10⟩ := hf 10 _ _ rfl
  obtain ⟨_, h11⟩ := hf 11 _ _ rfl
  obtain ⟨_, h12⟩ := hf 12 _ _ rfl
  obtain ⟨a0, e0⟩ := open_i h0
  obtain ⟨a1, e1⟩ := open_i h1
  obtain ⟨a2, e2⟩ := open_i h2
  rw [cof_words] at h3
  obtain ⟨rv, rs, e3, hs3, _⟩ := open_sl (f := wv) (Q := fun _ => True) (fun _ => rfl) (by omega) und_words cof_word open_word h3
  rw [cof_cells] at h4
  obtain ⟨cv', ys, e4, hs4, hq4⟩ := open_sl (f := csv) (size := 8) (Q := fun x : CS => SlR (memOf W) 6 pv x.s x.c.pairs) (fun _ => rfl) (by omega) und_cells cof_cell open_cell h4
  obtain ⟨a5, e5⟩ := open_i h5
  obtain ⟨a6, e6⟩ := open_i h6
  obtain ⟨a7, e7⟩ := open_i h7
  rw [cof_ints] at h8
  obtain ⟨gv, gs, e8, hs8, _⟩ := open_sl (f := iv) (size := 1) (Q := fun _ => True) (fun _ => rfl) (by omega) und_ints cof_int open_int1 h8
  obtain ⟨a9, e9⟩ := open_i h9
  obtain ⟨a10, e10⟩ := open_i h10
  obtain ⟨a11, e11⟩ := open_i h11
  obtain ⟨a12, e12⟩ := open_i h12
  have e3 := take_one e3
  have e4 := take_one e4
  have e8 := take_one e8
  refine ⟨⟨⟨a0, a1, a2, rs, ys.map (·.c), a5, a6, a7, gs, a9, a10, a11, a12⟩, rv, cv', gv, ys⟩, ?_, ⟨hs3, ⟨hs4, hq4⟩, rfl, hs8⟩⟩
  match cs, hl with
  | [v0, v1, v2, v3, v4, v5, v6, v7, v8, v9, v10, v11, v12], _ =>
    simp at e0 e1 e2 e3 e4 e5 e6 e7 e8 e9 e10 e11 e12
    subst e0; subst e1; subst e2; subst e3; subst e4; subst e5; subst e6; subst e7; subst e8; subst e9; subst e10; subst e11; subst e12; rfl
end
end Go.Proofs.Ytcmllambknfleaa.E
/- The engine's second storey: memory as separate pieces; what is asked of code over such pieces. Conditions: none. -/
set_option linter.unusedVariables false
set_option linter.unusedSimpArgs false
namespace Go.Proofs.Ytcmllambknfleaa.E
open Go

/-! ### Pieces of memory -/
abbrev Asr := Mem → Prop
def Mem.un (a b : Mem) : Mem := fun x => match a x with | some k => some k | none => b x
def Disj (a b : Mem) : Prop := ∀ x, a x = none ∨ b x = none
theorem Disj.symm {a b : Mem} (h : Disj a b) : Disj b a := fun x => (h x).symm
theorem un_l {a b : Mem} {x : Nat} {k : Bk} (h : a x = some k) : a.un b x = some k := by unfold Mem.un; rw [h]
theorem un_n {a b : Mem} {x : Nat} (h : a x = none) : a.un b x = b x := by unfold Mem.un; rw [h]
theorem un_r {a b : Mem} (d : Disj a b) {x : Nat} {k : Bk} (h : b x = some k) : a.un b x = some k := by
  rcases d x with e | e
  · rw [un_n e]; exact h
  · rw [h] at e; cases e
theorem le_l (a b : Mem) : a.le (a.un b) := fun x k h => un_l h
theorem le_r {a b : Mem} (d : Disj a b) : b.le (a.un b) := fun x k h => un_r d h
theorem un_none {a b : Mem} {x : Nat} : a.un b x = none ↔ a x = none ∧ b x = none := by
  unfold Mem.un
  cases h : a x <;> simp
theorem un_comm {a b : Mem} (d : Disj a b) : a.un b = b.un a := by
  funext x
  rcases d x with e | e
  · rw [un_n e]; cases h : b x with
    | none => rw [un_n h, e]
    | some k => rw [un_l h]
  · rw [un_n (a := b) e]; cases h : a x with
    | none => rw [un_n h, e]
    | some k => rw [un_l h]
theorem un_assoc (a b c : Mem) : (a.un b).un c = a.un (b.un c) := by
  funext x
  unfold Mem.un
  cases h : a x <;> simp
theorem disj_un {a b c : Mem} : Disj a (b.un c) ↔ Disj a b ∧ Disj a c := by
  constructor
  · intro h
    refine ⟨fun x => ?_, fun x => ?_⟩ <;> rcases h x with e | e
    · exact .inl e
    · exact .inr (un_none.1 e).1
    · exact .inl e
    · exact .inr (un_none.1 e).2
  · rintro ⟨h1, h2⟩ x
    rcases h1 x with e | e
    · exact .inl e
    · rcases h2 x with e' | e'
      · exact .inl e'
      · exact .inr (un_none.2 ⟨e, e'⟩)
theorem disj_un' {a b c : Mem} : Disj (a.un b) c ↔ Disj a c ∧ Disj b c := by
  constructor
  · intro h; have := disj_un.1 h.symm; exact ⟨this.1.symm, this.2.symm⟩
  · rintro ⟨h1, h2⟩; exact (disj_un.2 ⟨h1.symm, h2.symm⟩).symm
theorem un_upd_l {a b : Mem} {x : Nat} (k : Bk) : (a.un b).upd x k = (a.upd x k).un b := by
  funext y
  by_cases e : y = x
  · subst e; rw [Mem.upd_same, un_l (Mem.upd_same _ _ _)]
  · rw [Mem.upd_ne _ _ e]; unfold Mem.un; rw [Mem.upd_ne _ _ e]
theorem un_upd_r {a b : Mem} {x : Nat} (k : Bk) (h : a x = none) : (a.un b).upd x k = a.un (b.upd x k) := by
  funext y
  by_cases e : y = x
  · subst e; rw [Mem.upd_same, un_n h, Mem.upd_same]
  · rw [Mem.upd_ne _ _ e]; unfold Mem.un; rw [Mem.upd_ne _ _ e]
theorem Disj.upd {a b : Mem} (d : Disj a b) {x : Nat} (k : Bk) (h : b x = none) : Disj (a.upd x k) b := by
  intro y
  by_cases e : y = x
  · subst e; exact .inr h
  · rw [Mem.upd_ne _ _ e]; exact d y
def one (b : Nat) (k : Bk) : Mem := fun x => if x = b then some k else none
theorem one_same (b : Nat) (k : Bk) : one b k b = some k := by simp [one]
theorem one_ne {b x : Nat} (k : Bk) (h : x ≠ b) : one b k x = none := by simp [one, h]
theorem one_upd (b : Nat) (k k' : Bk) : (one b k).upd b k' = one b k' := by
  funext x; unfold Mem.upd one; split <;> simp_all
theorem upd_one {m : Mem} {b : Nat} (k : Bk) (h : m b = none) : m.upd b k = (one b k).un m := by
  funext x
  by_cases e : x = b
  · subst e; rw [Mem.upd_same, un_l (one_same _ _)]
  · rw [Mem.upd_ne _ _ e, un_n (one_ne _ e)]
theorem disj_one {m : Mem} {b : Nat} (k : Bk) (h : m b = none) : Disj (one b k) m := by
  intro x
  by_cases e : x = b
  · subst e; exact .inr h
  · exact .inl (one_ne _ e)
def emp : Mem := fun _ => none
theorem emp_un (m : Mem) : emp.un m = m := rfl
theorem un_emp (m : Mem) : m.un emp = m := by
  funext x; unfold Mem.un emp; cases m x <;> rfl
theorem disj_emp (m : Mem) : Disj m emp := fun _ => .inr rfl

def star : List Asr → Asr
  | [], m => m = emp
  | A :: r, m => ∃ a b, Disj a b ∧ m = a.un b ∧ A a ∧ star r b
theorem star_append {As Bs : List Asr} : ∀ {m : Mem}, star (As ++ Bs) m ↔ ∃ a b, Disj a b ∧ m = a.un b ∧ star As a ∧ star Bs b := by
  induction As with
  | nil =>
    intro m
    constructor
    · intro h; exact ⟨emp, m, fun _ => .inl rfl, (emp_un m).symm, rfl, h⟩
    · rintro ⟨a, b, d, rfl, rfl, h⟩; rw [emp_un]; exact h
  | cons A r ih =>
    intro m
    constructor
    · rintro ⟨a, b, d, rfl, hA, h⟩
      obtain ⟨c, e, d2, rfl, h1, h2⟩ := ih.1 h
      obtain ⟨d3, d4⟩ := disj_un.1 d
      exact ⟨a.un c, e, disj_un'.2 ⟨d4, d2⟩, (un_assoc _ _ _).symm, ⟨a, c, d3, rfl, hA, h1⟩, h2⟩
    · rintro ⟨x, e, d, rfl, ⟨a, c, d2, rfl, hA, h1⟩, h2⟩
      obtain ⟨d3, d4⟩ := disj_un'.1 d
      exact ⟨a, c.un e, disj_un.2 ⟨d2, d3⟩, un_assoc _ _ _, hA, ih.2 ⟨c, e, d4, rfl, h1, h2⟩⟩
theorem star_swap {A B : Asr} {r : List Asr} {m : Mem} (h : star (A :: B :: r) m) : star (B :: A :: r) m := by
  obtain ⟨a, x, d, rfl, hA, b, c, d2, rfl, hB, hr⟩ := h
  obtain ⟨d3, d4⟩ := disj_un.1 d
  refine ⟨b, a.un c, disj_un.2 ⟨d3.symm, d2⟩, ?_, hB, a, c, d4, rfl, hA, hr⟩
  rw [← un_assoc, un_comm d3, un_assoc]
theorem star_cons_mono {A B : Asr} {r s : List Asr} {m : Mem} (h : star (A :: r) m) (h1 : ∀ m, A m → B m) (h2 : ∀ m, star r m → star s m) : star (B :: s) m := by
  obtain ⟨a, b, d, e, hA, hr⟩ := h
  exact ⟨a, b, d, e, h1 _ hA, h2 _ hr⟩
/-- one piece, found among others -/
structure Pk (As : List Asr) (A : Asr) (r : List Asr) : Prop where
  out : ∀ m, star As m → star (A :: r) m
theorem pk_h {A : Asr} {r : List Asr} : Pk (A :: r) A r := ⟨fun _ h => h⟩
theorem pk_t {A B : Asr} {r r' : List Asr} (h : Pk r A r') : Pk (B :: r) A (B :: r') :=
  ⟨fun m hm => star_swap (star_cons_mono hm (fun _ h => h) h.out)⟩
/-- some pieces, found among others -/
structure Pm (As As1 F : List Asr) : Prop where
  out : ∀ m, star As m → star (As1 ++ F) m
theorem pm_nil {F : List Asr} : Pm F [] F := ⟨fun _ h => h⟩
theorem pm_cons {As As' As1 F : List Asr} {A : Asr} (h : Pk As A As') (h2 : Pm As' As1 F) : Pm As (A :: As1) F :=
  ⟨fun m hm => star_cons_mono (h.out m hm) (fun _ h => h) h2.out⟩
/-- what follows, some pieces dropped -/
structure Ent (As Bs : List Asr) : Prop where
  out : ∀ m, star As m → ∃ m', m'.le m ∧ star Bs m'
theorem Ent.refl (As : List Asr) : Ent As As := ⟨fun m h => ⟨m, Mem.le_refl _, h⟩⟩
theorem Pm.ent {As As1 F : List Asr} (h : Pm As As1 F) : Ent As As1 := ⟨fun m hm => by
  obtain ⟨a, b, d, rfl, h1, h2⟩ := star_append.1 (h.out m hm)
  exact ⟨a, le_l _ _, h1⟩⟩
theorem Ent.trans {A B C : List Asr} (h : Ent A B) (k : Ent B C) : Ent A C := ⟨fun m hm => by
  obtain ⟨m1, l1, s1⟩ := h.out m hm
  obtain ⟨m2, l2, s2⟩ := k.out m1 s1
  exact ⟨m2, Mem.le_trans l2 l1, s2⟩⟩

/-! ### The frame -/
theorem Fn.frame {P : Program} {f : FuncId} {args : List Value} {a b : Mem} {post : Value → Mem → Prop} (d : Disj a b) (h : Fn P f args a post) :
    Fn P f args (a.un b) (fun v M' => ∃ m', post v m' ∧ Disj m' b ∧ M' = m'.un b) := by
  refine ⟨fun w hw => ?_⟩
  have hwa : Sat w a := hw.le (le_l _ _)
  have hwb : Sat w b := hw.le (le_r d)
  refine (h.out w hwa).mono fun e w' ⟨v, m', he, hp, hs, ht⟩ => ?_
  have hd : Disj m' b := by
    intro x
    cases h1 : m' x with
    | none => exact .inl rfl
    | some k =>
      right
      cases h2 : b x with
      | none => rfl
      | some k2 =>
        have hlt := (hwb x k2 h2).lt
        rcases ht.dom x (by rw [h1]; simp) with h3 | h3
        · rcases d x with h4 | h4
          · exact absurd h4 h3
          · rw [h2] at h4; cases h4
        · omega
  refine ⟨v, m'.un b, he, ⟨m', hp, hd, rfl⟩, ?_, ⟨ht.os, ht.tape, ht.output, ht.size, ?_, ?_⟩⟩
  · intro x k hk
    cases h1 : m' x with
    | some k1 => rw [un_l h1] at hk; cases hk; exact hs x _ h1
    | none =>
      rw [un_n h1] at hk
      have hb := hwb x k hk
      refine hb.of_eq (ht.keep x hb.lt ?_)
      rcases d x with h4 | h4
      · exact h4
      · rw [hk] at h4; cases h4
  · intro x hx hn
    exact ht.keep x hx (un_none.1 hn).1
  · intro x hx
    cases h1 : m' x with
    | some k1 =>
      rcases ht.dom x (by rw [h1]; simp) with h3 | h3
      · exact .inl fun e => h3 (un_none.1 e).1
      · exact .inr h3
    | none =>
      rw [un_n h1] at hx
      exact .inl fun e => hx (un_none.1 e).2
theorem Fn.le {P : Program} {f : FuncId} {args : List Value} {m M : Mem} {post : Value → Mem → Prop} (l : m.le M) (h : Fn P f args m post) : Fn P f args M post := by
  refine ⟨fun w hw => (h.out w (hw.le l)).mono fun e w' ⟨v, m', he, hp, hs, ht⟩ => ⟨v, m', he, hp, hs, ht.os, ht.tape, ht.output, ht.size, fun b hb hn => ht.keep b hb ?_, fun b hb => ?_⟩⟩
  · cases h : m b with
    | none => rfl
    | some k => rw [l b k h] at hn; cases hn
  · rcases ht.dom b hb with h | h
    · refine .inl fun e => h ?_
      cases h' : m b with
      | none => rfl
      | some k => rw [l b k h'] at e; cases e
    · exact .inr h

/-! ### What is asked, over pieces -/
def upQ (Q : X → St → List Asr → Prop) : X → St → Mem → Prop := fun x S M => ∃ As m, m.le M ∧ star As m ∧ Q x S As
structure VA (E : Env) (c : C) (Q : X → St → List Asr → Prop) (S : St) (As : List Asr) : Prop where
  out : ∀ m, star As m → VC E c (upQ Q) S m
def upP (post : St → List Asr → Prop) : St → Mem → Prop := fun S M => ∃ As m, m.le M ∧ star As m ∧ post S As
structure LA (P : Program) (l : List I) (post : St → List Asr → Prop) (S : St) (As : List Asr) : Prop where
  out : ∀ m, star As m → VL P l (upP post) S m
/-- A CALL, over pieces. -/
structure FnA (P : Program) (f : FuncId) (args : List Value) (As : List Asr) (post : Value → List Asr → Prop) : Prop where
  out : ∀ m, star As m → Fn P f args m (fun v M' => ∃ As' m', m'.le M' ∧ star As' m' ∧ post v As')
theorem FnA.mono {P : Program} {f : FuncId} {args : List Value} {As : List Asr} {post post' : Value → List Asr → Prop} (h : FnA P f args As post) (k : ∀ v As', post v As' → post' v As') : FnA P f args As post' :=
  ⟨fun m hm => (h.out m hm).mono fun v M' ⟨As', m', l, s, p⟩ => ⟨As', m', l, s, k _ _ p⟩⟩
theorem FnA.frame {P : Program} {f : FuncId} {args : List Value} {As F : List Asr} {post : Value → List Asr → Prop} (h : FnA P f args As post) : FnA P f args (As ++ F) (fun v As' => ∃ As1, post v As1 ∧ As' = As1 ++ F) :=
  ⟨fun m hm => by
    obtain ⟨a, b, d, rfl, h1, h2⟩ := star_append.1 hm
    refine ((h.out a h1).frame d).mono ?_
    rintro v M' ⟨m', ⟨As', m1, l1, s1, hp⟩, hd, rfl⟩
    have hd1 : Disj m1 b := fun x => by
      rcases hd x with e | e
      · left
        cases h : m1 x with
        | none => rfl
        | some k => rw [l1 x k h] at e; cases e
      · exact .inr e
    refine ⟨As' ++ F, m1.un b, ?_, star_append.2 ⟨m1, b, hd1, rfl, s1, h2⟩, As', hp, rfl⟩
    intro x k hk
    cases h : m1 x with
    | some k1 => rw [un_l h] at hk; cases hk; exact un_l (l1 x _ h)
    | none => rw [un_n h] at hk; exact un_r hd hk⟩
theorem FnA.ent {P : Program} {f : FuncId} {args : List Value} {As Bs : List Asr} {post : Value → List Asr → Prop} (h : FnA P f args Bs post) (e : Ent As Bs) : FnA P f args As post :=
  ⟨fun m hm => by obtain ⟨m', l, s⟩ := e.out m hm; exact (h.out m' s).le l⟩
theorem upP_of {post : St → List Asr → Prop} {S : St} {As : List Asr} {m : Mem} (s : star As m) (h : post S As) : upP post S m := ⟨As, m, Mem.le_refl _, s, h⟩

theorem vcK_mono {P : Program} {c : K} {d : Option Nat} {p p' : St → Mem → Prop} (k : ∀ S M, p S M → p' S M) {S : St} {M : Mem} (h : vcK P c d p S M) : vcK P c d p' S M := by
  have am : ∀ {size bytes : Nat} {s : Value} {src : List Value} {n : Nat} {q q' : Value → Mem → Prop}, (∀ v M, q v M → q' v M) → appM M size bytes s src n q → appM M size bytes s src n q' := by
    intro size bytes s src n q q' kq h
    unfold appM at *
    split at h
    · obtain ⟨h1, h2, h3, h4⟩ := h
      refine ⟨h1, h2, h3, ?_⟩
      rcases h4 with ⟨h5, h6⟩ | ⟨h5, h6⟩
      · exact .inl ⟨h5, kq _ _ h6⟩
      · exact .inr ⟨h5, fun b c z e1 e2 e3 => kq _ _ (h6 b c z e1 e2 e3)⟩
    · obtain ⟨cs, h1, h2, h4⟩ := h
      refine ⟨cs, h1, h2, ?_⟩
      rcases h4 with ⟨h5, h6, h7⟩ | ⟨h5, h6, h7⟩
      · exact .inl ⟨h5, h6, kq _ _ h7⟩
      · exact .inr ⟨h5, h6, fun b c z e1 e2 e3 => kq _ _ (h7 b c z e1 e2 e3)⟩
    · exact h
  cases c
  case call => obtain ⟨args, h1, h2⟩ := h; exact ⟨args, h1, h2.mono fun v M' h => k _ _ h⟩
  case callv => obtain ⟨g, u, c, args, h1, h2, h3, h4⟩ := h; exact ⟨g, u, c, args, h1, h2, h3, h4.mono fun v M' h => k _ _ h⟩
  case store =>
    obtain ⟨v, h1, h2, h3, h4⟩ := h
    refine ⟨v, h1, h2, h3, ?_⟩
    rcases h4 with ⟨s, o, cs, a1, a2, a3, a4⟩ | ⟨b, o, cs, a1, a2, a3, a4⟩
    · exact .inl ⟨s, o, cs, a1, a2, a3, k _ _ a4⟩
    · exact .inr ⟨b, o, cs, a1, a2, a3, k _ _ a4⟩
  case alloc ow z =>
    cases ow with
    | false => exact fun b hb => k _ _ (h b hb)
    | true => obtain ⟨sv, h1, h2⟩ := h; exact ⟨sv, h1, k _ _ h2⟩
  case box ow x =>
    cases ow with
    | false => obtain ⟨v, h1, h2⟩ := h; exact ⟨v, h1, fun b hb => k _ _ (h2 b hb)⟩
    | true => obtain ⟨sv, h1, h2⟩ := h; exact ⟨sv, h1, k _ _ h2⟩
  case bslice ow len size z ps =>
    cases ow with
    | false => obtain ⟨v, h1, h2⟩ := h; exact ⟨v, h1, fun b hb => k _ _ (h2 b hb)⟩
    | true => obtain ⟨sv, h1, h2⟩ := h; exact ⟨sv, h1, k _ _ h2⟩
  case mkslice => obtain ⟨n, m, h1, h2, h3, h4, h5, h6⟩ := h; exact ⟨n, m, h1, h2, h3, h4, h5, fun b hb => k _ _ (h6 b hb)⟩
  case app => obtain ⟨sv, src, n, h1, h2, h3, h4⟩ := h; exact ⟨sv, src, n, h1, h2, h3, am (fun _ _ h => k _ _ h) h4⟩
  case appz => obtain ⟨sv, n, h1, h2, h3, h4, h5⟩ := h; exact ⟨sv, n, h1, h2, h3, h4, am (fun _ _ h => k _ _ h) h5⟩
  case mkmap => exact fun b hb => k _ _ (h b hb)
  case mupd => obtain ⟨b, es, c, j, v, h1, h2, h3, h4, h5, h6⟩ := h; exact ⟨b, es, c, j, v, h1, h2, h3, h4, h5, k _ _ h6⟩
  case mdel => obtain ⟨b, es, c, j, h1, h2, h3, h4, h5⟩ := h; exact ⟨b, es, c, j, h1, h2, h3, h4, k _ _ h5⟩
  all_goals (obtain ⟨sv, h1, h2⟩ := h; exact ⟨sv, h1, k _ _ h2⟩)
theorem vcO_mono {P : Program} {i : I} {p p' : St → Mem → Prop} (k : ∀ S M, p S M → p' S M) {S : St} {M : Mem} (h : vcO P i p S M) : vcO P i p' S M := by
  unfold vcO at *
  split at h
  · exact vcK_mono k h
  · split at h
    · exact ⟨fun e => vcK_mono k (h.1 e), fun e => k _ _ (h.2 e)⟩
    · exact k _ _ h
    · exact h
theorem VL.mono {P : Program} {l : List I} {post post' : St → Mem → Prop} (k : ∀ S M, post S M → post' S M) {S : St} {M : Mem} (h : VL P l post S M) : VL P l post' S M := by
  refine ⟨?_⟩
  have h := h.out
  revert S M
  induction l with
  | nil => intro S M _ h; exact k S M h
  | cons i r ih =>
    intro S M _ h
    have ih' : ∀ S M, vcL P r post S M → vcL P r post' S M := fun S M h => ih ⟨h⟩ h
    show vcO P i (vcL P r post') S M
    have h : vcO P i (vcL P r post) S M := h
    exact vcO_mono ih' h
section
variable {E : Env} {Q : X → St → List Asr → Prop} {S : St} {As Bs : List Asr} {K : St → List Asr → Prop}
def seqA (K : St → List Asr → Prop) (Q : X → St → List Asr → Prop) : X → St → List Asr → Prop
  | .nrm => K
  | x => Q x
def blkA (id : Nat) (Q : X → St → List Asr → Prop) : X → St → List Asr → Prop
  | .ext i => if i = id then Q .nrm else Q (.ext i)
  | x => Q x
theorem VA.ent {c : C} (e : Ent As Bs) (h : VA E c Q S Bs) : VA E c Q S As :=
  ⟨fun m hm => by obtain ⟨m', l, s⟩ := e.out m hm; exact VC.drop l (h.out m' s)⟩
theorem VA.pk {A : Asr} {c : C} (e : Pk As A Bs) (h : VA E c Q S (A :: Bs)) : VA E c Q S As := ⟨fun m hm => h.out m (e.out m hm)⟩
theorem v_reg {l : List I} (h : LA E.P l (Q .nrm) S As) : VA E (.reg l) Q S As :=
  ⟨fun m hm => VC.regV (h.out m hm)⟩
theorem v_dreg {n : Nat} {l : List I} (h : LA E.P l (Q .nrm) (fun t => junkD (dsOf l n) (S t)) As) : VA E (.dreg n l) Q S As :=
  ⟨fun m hm => VC.dregV (h.out m hm)⟩
theorem v_zreg {ds : List Nat} {zs cs : List I} (h : LA E.P zs (fun S' _ => LA E.P cs (Q .nrm) S' As) (fun t => junkD ds (S t)) []) : VA E (.zreg ds zs cs) Q S As :=
  ⟨fun m hm => VC.zreg (VL.mono (fun S' M' ⟨_, _, _, _, h⟩ => (h.out m hm).out) (h.out emp rfl)).out⟩
theorem v_seq {a b : C} (h : VA E a (seqA (VA E b Q) Q) S As) : VA E (.seq a b) Q S As :=
  ⟨fun m hm => VC.seq ((h.out m hm).mono fun x S M ⟨As', m', l, s, hq⟩ => by
    cases x with
    | nrm => exact VC.drop l (hq.out m' s)
    | ret => exact ⟨As', m', l, s, hq⟩
    | ext i => exact ⟨As', m', l, s, hq⟩)⟩
theorem v_cond {x : Operand} {a b : C} (t : Bool) (hx : ev S x = some (.bool t)) (h1 : t = true → VA E a Q S As) (h2 : t = false → VA E b Q S As) : VA E (.cond x a b) Q S As :=
  ⟨fun m hm => VC.cond t hx (fun e => (h1 e).out m hm) (fun e => (h2 e).out m hm)⟩
theorem v_blk {id : Nat} {c : C} (h : VA E c (blkA id Q) S As) : VA E (.block id c) Q S As :=
  ⟨fun m hm => VC.block ((h.out m hm).mono fun x S M ⟨As', m', l, s, hq⟩ => by
    cases x with
    | nrm => exact ⟨As', m', l, s, hq⟩
    | ret => exact ⟨As', m', l, s, hq⟩
    | ext i =>
      unfold blkA at hq
      unfold blkQ
      simp only at hq ⊢
      split
      · rename_i e; rw [if_pos e] at hq; exact ⟨As', m', l, s, hq⟩
      · rename_i e; rw [if_neg e] at hq; exact ⟨As', m', l, s, hq⟩)⟩
theorem v_skip (h : Q .nrm S As) : VA E .skip Q S As := ⟨fun m hm => VC.skip ⟨As, m, Mem.le_refl _, hm, h⟩⟩
theorem v_ret (h : Q .ret S As) : VA E .ret Q S As := ⟨fun m hm => VC.ret ⟨As, m, Mem.le_refl _, hm, h⟩⟩
theorem v_exit {id : Nat} (h : Q (.ext id) S As) : VA E (.exit id) Q S As := ⟨fun m hm => VC.exit ⟨As, m, Mem.le_refl _, hm, h⟩⟩
theorem v_mono {c : C} {Q' : X → St → List Asr → Prop} (h : VA E c Q S As) (k : ∀ x S As, Q x S As → Q' x S As) : VA E c Q' S As :=
  ⟨fun m hm => (h.out m hm).mono fun x S M ⟨As', m', l, s, hq⟩ => ⟨As', m', l, s, k _ _ _ hq⟩⟩
/-- what is proved once of what follows, by whatever way one comes to it -/
theorem v_cut {a b : C} (J : St → List Asr → Prop) (h : VA E a (seqA J Q) S As) (h2 : ∀ S As, J S As → VA E b Q S As) : VA E (.seq a b) Q S As :=
  v_seq (v_mono h fun x S As hq => by cases x <;> first | exact h2 _ _ hq | exact hq)
theorem v_weak {c : C} (l : List (Nat × SV)) (hS : leA l S) (h : VA E c Q (ofL l) As) : VA E c Q S As :=
  ⟨fun m hm => VC.weak l hS (Mem.le_refl _) (h.out m hm)⟩
/-- A LOOP: the slots and the pieces at its head, and what holds there when at most k rounds are to come. -/
theorem v_loop {c : C} {α : Type} (T : α → List (Nat × SV)) (At : α → List Asr) (Inv : Nat → α → Prop) (h0 : ∃ k x, leA (T x) S ∧ Ent As (At x) ∧ Inv k x)
    (h : ∀ k x, Inv k x → VA E c (seqA (fun S' As' => ∃ k' x', k' < k ∧ leA (T x') S' ∧ Ent As' (At x') ∧ Inv k' x') Q) (ofL (T x)) (At x)) : VA E (.loop c) Q S As :=
  ⟨fun m hm => by
    obtain ⟨k0, x0, a1, a2, a3⟩ := h0
    obtain ⟨m0, l0, s0⟩ := a2.out m hm
    refine VC.loop T (fun k x M => Inv k x ∧ star (At x) M) ⟨k0, x0, m0, a1, l0, a3, s0⟩ ?_
    rintro k x M ⟨hi, hs⟩
    refine ((h k x hi).out M hs).mono ?_
    rintro y S' M' ⟨As', m', l, s, hq⟩
    cases y with
    | nrm =>
      obtain ⟨k', x', b1, b2, b3, b4⟩ := hq
      obtain ⟨m2, l2, s2⟩ := b3.out m' s
      exact ⟨k', x', m2, b1, b2, Mem.le_trans l2 l, b4, s2⟩
    | ret => exact ⟨As', m', l, s, hq⟩
    | ext i => exact ⟨As', m', l, s, hq⟩⟩
theorem v_ct {x : Operand} {a b : C} (hx : ev S x = some (.bool true)) (h : VA E a Q S As) : VA E (.cond x a b) Q S As := v_cond true hx (fun _ => h) (fun e => by cases e)
theorem v_cf {x : Operand} {a b : C} (hx : ev S x = some (.bool false)) (h : VA E b Q S As) : VA E (.cond x a b) Q S As := v_cond false hx (fun e => by cases e) (fun _ => h)
theorem v_cd {x : Operand} {a b : C} {p : Prop} {_ : Decidable p} (hx : ev S x = some (.bool (decide p))) (h1 : p → VA E a Q S As) (h2 : ¬ p → VA E b Q S As) : VA E (.cond x a b) Q S As :=
  v_cond _ hx (fun h => h1 (of_decide_eq_true h)) (fun h => h2 (of_decide_eq_false h))
theorem v_ce {x : Operand} {a b : C} {u w : Int} (hx : ev S x = some (.bool (u == w))) (h1 : u = w → VA E a Q S As) (h2 : u ≠ w → VA E b Q S As) : VA E (.cond x a b) Q S As :=
  v_cond _ hx (fun h => h1 (by simpa using h)) (fun h => h2 (by simpa using h))
theorem v_cn {x : Operand} {a b : C} {u w : Int} (hx : ev S x = some (.bool (u != w))) (h1 : u ≠ w → VA E a Q S As) (h2 : u = w → VA E b Q S As) : VA E (.cond x a b) Q S As :=
  v_cond _ hx (fun h => h1 (by simpa using h)) (fun h => h2 (by simpa using h))
theorem v_cnd {x : Operand} {a b : C} {p : Prop} {_ : Decidable p} (hx : ev S x = some (.bool (!decide p))) (h1 : ¬ p → VA E a Q S As) (h2 : p → VA E b Q S As) : VA E (.cond x a b) Q S As :=
  v_cond _ hx (fun h => h1 (by simpa using h)) (fun h => h2 (by simpa using h))
theorem s_n (h : K S As) : seqA K Q .nrm S As := h
theorem s_r (h : Q .ret S As) : seqA K Q .ret S As := h
theorem s_e {i : Nat} (h : Q (.ext i) S As) : seqA K Q (.ext i) S As := h
theorem b_n {id : Nat} (h : Q .nrm S As) : blkA id Q .nrm S As := h
theorem b_r {id : Nat} (h : Q .ret S As) : blkA id Q .ret S As := h
theorem b_e {id : Nat} (h : Q .nrm S As) : blkA id Q (.ext id) S As := by unfold blkA; simp only [if_true]; exact h
theorem b_o {id i : Nat} (hi : Nat.beq i id = false) (h : Q (.ext i) S As) : blkA id Q (.ext i) S As := by
  have e : i ≠ id := fun e => by subst e; simp at hi
  unfold blkA; simp only [if_neg e]; exact h
end

/-! ### A function -/
def fnA (rs : List RV) (post : Value → List Asr → Prop) : X → St → List Asr → Prop
  | .ext _, _, _ => False
  | _, S, As => ∃ v As', (∀ m, star As m → resV S m rs = some v) ∧ Ent As As' ∧ post v As'
theorem fa_r {rl : List RV} {S : St} {As As' : List Asr} {v : Value} {post : Value → List Asr → Prop} (h : ∀ m, star As m → resV S m rl = some v) (e : Ent As As') (hp : post v As') : fnA rl post .ret S As := ⟨v, As', h, e, hp⟩
theorem fa_n {rl : List RV} {S : St} {As As' : List Asr} {v : Value} {post : Value → List Asr → Prop} (h : ∀ m, star As m → resV S m rl = some v) (e : Ent As As') (hp : post v As') : fnA rl post .nrm S As := ⟨v, As', h, e, hp⟩
theorem rvs_le {S : St} {m M : Mem} (l : m.le M) : ∀ {rs : List RV} {vs : List Value}, rvs S m rs = some vs → rvs S M rs = some vs
  | [], vs, h => h
  | r :: t, vs, h => by
    simp only [rvs] at h ⊢
    split at h
    · rename_i v l' h1 h2
      have h1' : rvV S M r = some v := by
        cases r with
        | tmp t => exact h1
        | cell t one n =>
          simp only [rvV] at h1 ⊢
          split at h1
          · exact h1
          · rename_i b o hl
            split at h1
            · rename_i cs hM; rw [l _ _ hM]; exact h1
            · cases h1
          · cases h1
      rw [h1', rvs_le l h2]; exact h
    · cases h
theorem resV_le {S : St} {m M : Mem} (l : m.le M) {rs : List RV} {v : Value} (h : resV S m rs = some v) : resV S M rs = some v := by
  unfold resV at *
  cases h1 : rvs S m rs with
  | none => rw [h1] at h; cases h
  | some vs => rw [rvs_le l h1]; rw [h1] at h; exact h
theorem fnA_of {E : Env} {c : C} {f : FuncId} {args : List Value} {nt : Nat} {rl : List RV} {P : Program} {As : List Asr} {post : Value → List Asr → Prop}
    (hf : ∀ {M : Mem} {p : Value → Mem → Prop}, VC E c (fnQ rl p) (initS args nt) M → Fn P f args M p) (h : VA E c (fnA rl post) (initS args nt) As) : FnA P f args As post :=
  ⟨fun m hm => hf ((h.out m hm).mono fun x S M ⟨As', m', l, s, hq⟩ => by
    cases x with
    | ext i => exact hq
    | nrm =>
      obtain ⟨v, As2, h1, h2, h3⟩ := hq
      obtain ⟨m2, l2, s2⟩ := h2.out m' s
      exact ⟨v, m2, resV_le l (h1 m' s), Mem.le_trans l2 l, As2, m2, Mem.le_refl _, s2, h3⟩
    | ret =>
      obtain ⟨v, As2, h1, h2, h3⟩ := hq
      obtain ⟨m2, l2, s2⟩ := h2.out m' s
      exact ⟨v, m2, resV_le l (h1 m' s), Mem.le_trans l2 l, As2, m2, Mem.le_refl _, s2, h3⟩)⟩
end Go.Proofs.Ytcmllambknfleaa.E
