/- The functions of the program in the engine's form, written by a program out of the loaded translation, and checked against it by the kernel. Conditions: none. -/
import Derived.Test.YtcmllambknfleaaKB3
set_option maxRecDepth 100000
set_option linter.unusedVariables false
namespace Go.Proofs.Ytcmllambknfleaa.E
open Go
/-! laws.eqWord -/
noncomputable def e37 : Env := ⟨Try.prog, [2, 3], 20, []⟩
noncomputable def c37 : C :=
  .seq (.reg [
    ⟨some 2, none, .box true (.tmp 0)⟩,
    ⟨some 3, none, .box true (.tmp 1)⟩,
    ⟨some 4, none, .mov (.const (.bool false))⟩]) (.seq (.seq (.reg [
    ⟨some 5, none, .faddr 0 (.tmp 2)⟩,
    ⟨some 6, none, .load true 1 (.tmp 5)⟩,
    ⟨some 7, none, .faddr 0 (.tmp 3)⟩,
    ⟨some 8, none, .load true 1 (.tmp 7)⟩,
    ⟨some 9, none, .bin .neq (.tmp 6) (.tmp 8)⟩]) (.cond (.tmp 9) (.seq (.reg [
    ⟨some 4, none, .mov (.const (.bool false))⟩]) (.ret)) (.skip))) (.seq (.seq (.reg [
    ⟨some 10, none, .faddr 1 (.tmp 2)⟩,
    ⟨some 11, none, .load true 1 (.tmp 10)⟩,
    ⟨some 12, none, .faddr 1 (.tmp 3)⟩,
    ⟨some 13, none, .load true 1 (.tmp 12)⟩,
    ⟨some 14, none, .bin .neq (.tmp 11) (.tmp 13)⟩]) (.cond (.tmp 14) (.seq (.reg [
    ⟨some 4, none, .mov (.const (.bool false))⟩]) (.ret)) (.skip))) (.seq (.seq (.reg [
    ⟨some 15, none, .faddr 2 (.tmp 2)⟩,
    ⟨some 16, none, .load true 1 (.tmp 15)⟩,
    ⟨some 17, none, .faddr 2 (.tmp 3)⟩,
    ⟨some 18, none, .load true 1 (.tmp 17)⟩,
    ⟨some 19, none, .bin .neq (.tmp 16) (.tmp 18)⟩]) (.cond (.tmp 19) (.seq (.reg [
    ⟨some 4, none, .mov (.const (.bool false))⟩]) (.ret)) (.skip))) (.seq (.reg [
    ⟨some 4, none, .mov (.const (.bool true))⟩]) (.ret)))))
theorem t37 : Try.f37.body.bind (trC e37) = some c37 := by kernel_rfl
theorem r37 : Try.f37.results.toList.mapM (trR Try.prog) = some [.tmp 4] := by kernel_rfl
theorem fn37 {args : List Value} {M : Mem} {post : Value → Mem → Prop} (hl : args.length ≤ 20) (h : VC e37 c37 (fnQ [.tmp 4] post) (initS args 20) M) : Fn Try.prog 37 args M post :=
  Fn.of' (E := e37) Try.func37 t37 rfl r37 mixed hl h
/-! laws.eqWordS -/
noncomputable def e72 : Env := ⟨Try.prog, [], 27, [(6, 10)]⟩
noncomputable def c72 : C :=
  .seq (.reg [
    ⟨some 4, none, .mov (.const (.bool false))⟩]) (.seq (.seq (.reg [
    ⟨some 6, none, .mov (.tmp 0)⟩,
    ⟨some 7, none, .lenS (.tmp 6)⟩,
    ⟨some 8, none, .mov (.tmp 1)⟩,
    ⟨some 9, none, .lenS (.tmp 8)⟩,
    ⟨some 10, none, .bin .neq (.tmp 7) (.tmp 9)⟩]) (.cond (.tmp 10) (.seq (.reg [
    ⟨some 4, none, .mov (.const (.bool false))⟩]) (.ret)) (.skip))) (.seq (.seq (.reg [
    ⟨some 5, none, .mov (.const (.int .i64 0))⟩]) (.block 0 (.loop (.seq (.seq (.reg [
    ⟨some 11, none, .mov (.tmp 5)⟩,
    ⟨some 12, none, .mov (.tmp 0)⟩,
    ⟨some 13, none, .lenS (.tmp 12)⟩,
    ⟨some 14, none, .bin .lss (.tmp 11) (.tmp 13)⟩]) (.cond (.tmp 14) (.skip) (.exit 0))) (.seq (.block 1 (.seq (.dreg 10 [
    ⟨some 17, none, .mov (.tmp 0)⟩,
    ⟨some 18, none, .mov (.tmp 5)⟩,
    ⟨some 19, none, .iaddr 3 (.tmp 17) (.tmp 18)⟩,
    ⟨some 20, none, .load false 3 (.tmp 19)⟩,
    ⟨some 21, none, .mov (.tmp 1)⟩,
    ⟨some 22, none, .mov (.tmp 5)⟩,
    ⟨some 23, none, .iaddr 3 (.tmp 21) (.tmp 22)⟩,
    ⟨some 24, none, .load false 3 (.tmp 23)⟩,
    ⟨some 25, none, .qcall 37 [.tmp 20, .tmp 24]⟩,
    ⟨some 26, none, .not (.tmp 25)⟩]) (.cond (.tmp 26) (.seq (.reg [
    ⟨some 4, none, .mov (.const (.bool false))⟩]) (.ret)) (.skip)))) (.reg [
    ⟨some 15, none, .mov (.tmp 5)⟩,
    ⟨some 16, none, .bin .add (.tmp 15) (.const (.int .i64 1))⟩,
    ⟨some 5, none, .mov (.tmp 16)⟩])))))) (.seq (.reg [
    ⟨some 4, none, .mov (.const (.bool true))⟩]) (.ret))))
theorem t72 : Try.f72.body.bind (trC e72) = some c72 := by kernel_rfl
theorem r72 : Try.f72.results.toList.mapM (trR Try.prog) = some [.tmp 4] := by kernel_rfl
theorem fn72 {args : List Value} {M : Mem} {post : Value → Mem → Prop} (hl : args.length ≤ 27) (h : VC e72 c72 (fnQ [.tmp 4] post) (initS args 27) M) : Fn Try.prog 72 args M post :=
  Fn.of' (E := e72) Try.func72 t72 rfl r72 mixed hl h
/-! laws.eqPair -/
noncomputable def e176 : Env := ⟨Try.prog, [2, 3], 17, []⟩
noncomputable def c176 : C :=
  .seq (.reg [
    ⟨some 2, none, .box true (.tmp 0)⟩,
    ⟨some 3, none, .box true (.tmp 1)⟩,
    ⟨some 4, none, .mov (.const (.bool false))⟩]) (.seq (.seq (.reg [
    ⟨some 5, none, .faddr 0 (.tmp 2)⟩,
    ⟨some 6, none, .load false 3 (.tmp 5)⟩,
    ⟨some 7, none, .faddr 0 (.tmp 3)⟩,
    ⟨some 8, none, .load false 3 (.tmp 7)⟩,
    ⟨some 9, none, .call 37 [.tmp 6, .tmp 8]⟩,
    ⟨some 10, none, .not (.tmp 9)⟩]) (.cond (.tmp 10) (.seq (.reg [
    ⟨some 4, none, .mov (.const (.bool false))⟩]) (.ret)) (.skip))) (.seq (.seq (.reg [
    ⟨some 11, none, .faddr 3 (.tmp 2)⟩,
    ⟨some 12, none, .load false 3 (.tmp 11)⟩,
    ⟨some 13, none, .faddr 3 (.tmp 3)⟩,
    ⟨some 14, none, .load false 3 (.tmp 13)⟩,
    ⟨some 15, none, .call 37 [.tmp 12, .tmp 14]⟩,
    ⟨some 16, none, .not (.tmp 15)⟩]) (.cond (.tmp 16) (.seq (.reg [
    ⟨some 4, none, .mov (.const (.bool false))⟩]) (.ret)) (.skip))) (.seq (.reg [
    ⟨some 4, none, .mov (.const (.bool true))⟩]) (.ret))))
theorem t176 : Try.f176.body.bind (trC e176) = some c176 := by kernel_rfl
theorem r176 : Try.f176.results.toList.mapM (trR Try.prog) = some [.tmp 4] := by kernel_rfl
theorem fn176 {args : List Value} {M : Mem} {post : Value → Mem → Prop} (hl : args.length ≤ 17) (h : VC e176 c176 (fnQ [.tmp 4] post) (initS args 17) M) : Fn Try.prog 176 args M post :=
  Fn.of' (E := e176) Try.func176 t176 rfl r176 mixed hl h
/-! laws.eqPairS -/
noncomputable def e163 : Env := ⟨Try.prog, [], 27, [(6, 10)]⟩
noncomputable def c163 : C :=
  .seq (.reg [
    ⟨some 4, none, .mov (.const (.bool false))⟩]) (.seq (.seq (.reg [
    ⟨some 6, none, .mov (.tmp 0)⟩,
    ⟨some 7, none, .lenS (.tmp 6)⟩,
    ⟨some 8, none, .mov (.tmp 1)⟩,
    ⟨some 9, none, .lenS (.tmp 8)⟩,
    ⟨some 10, none, .bin .neq (.tmp 7) (.tmp 9)⟩]) (.cond (.tmp 10) (.seq (.reg [
    ⟨some 4, none, .mov (.const (.bool false))⟩]) (.ret)) (.skip))) (.seq (.seq (.reg [
    ⟨some 5, none, .mov (.const (.int .i64 0))⟩]) (.block 0 (.loop (.seq (.seq (.reg [
    ⟨some 11, none, .mov (.tmp 5)⟩,
    ⟨some 12, none, .mov (.tmp 0)⟩,
    ⟨some 13, none, .lenS (.tmp 12)⟩,
    ⟨some 14, none, .bin .lss (.tmp 11) (.tmp 13)⟩]) (.cond (.tmp 14) (.skip) (.exit 0))) (.seq (.block 1 (.seq (.dreg 10 [
    ⟨some 17, none, .mov (.tmp 0)⟩,
    ⟨some 18, none, .mov (.tmp 5)⟩,
    ⟨some 19, none, .iaddr 6 (.tmp 17) (.tmp 18)⟩,
    ⟨some 20, none, .load false 6 (.tmp 19)⟩,
    ⟨some 21, none, .mov (.tmp 1)⟩,
    ⟨some 22, none, .mov (.tmp 5)⟩,
    ⟨some 23, none, .iaddr 6 (.tmp 21) (.tmp 22)⟩,
    ⟨some 24, none, .load false 6 (.tmp 23)⟩,
    ⟨some 25, none, .qcall 176 [.tmp 20, .tmp 24]⟩,
    ⟨some 26, none, .not (.tmp 25)⟩]) (.cond (.tmp 26) (.seq (.reg [
    ⟨some 4, none, .mov (.const (.bool false))⟩]) (.ret)) (.skip)))) (.reg [
    ⟨some 15, none, .mov (.tmp 5)⟩,
    ⟨some 16, none, .bin .add (.tmp 15) (.const (.int .i64 1))⟩,
    ⟨some 5, none, .mov (.tmp 16)⟩])))))) (.seq (.reg [
    ⟨some 4, none, .mov (.const (.bool true))⟩]) (.ret))))
theorem t163 : Try.f163.body.bind (trC e163) = some c163 := by kernel_rfl
theorem r163 : Try.f163.results.toList.mapM (trR Try.prog) = some [.tmp 4] := by kernel_rfl
theorem fn163 {args : List Value} {M : Mem} {post : Value → Mem → Prop} (hl : args.length ≤ 27) (h : VC e163 c163 (fnQ [.tmp 4] post) (initS args 27) M) : Fn Try.prog 163 args M post :=
  Fn.of' (E := e163) Try.func163 t163 rfl r163 mixed hl h
/-! laws.eqCell -/
noncomputable def e130 : Env := ⟨Try.prog, [2, 3], 46, []⟩
noncomputable def c130 : C :=
  .seq (.reg [
    ⟨some 2, none, .box true (.tmp 0)⟩,
    ⟨some 3, none, .box true (.tmp 1)⟩,
    ⟨some 4, none, .mov (.const (.bool false))⟩]) (.seq (.seq (.reg [
    ⟨some 5, none, .faddr 0 (.tmp 2)⟩,
    ⟨some 6, none, .load true 1 (.tmp 5)⟩,
    ⟨some 7, none, .faddr 0 (.tmp 3)⟩,
    ⟨some 8, none, .load true 1 (.tmp 7)⟩,
    ⟨some 9, none, .bin .neq (.tmp 6) (.tmp 8)⟩]) (.cond (.tmp 9) (.seq (.reg [
    ⟨some 4, none, .mov (.const (.bool false))⟩]) (.ret)) (.skip))) (.seq (.seq (.reg [
    ⟨some 10, none, .faddr 1 (.tmp 2)⟩,
    ⟨some 11, none, .load true 1 (.tmp 10)⟩,
    ⟨some 12, none, .faddr 1 (.tmp 3)⟩,
    ⟨some 13, none, .load true 1 (.tmp 12)⟩,
    ⟨some 14, none, .bin .neq (.tmp 11) (.tmp 13)⟩]) (.cond (.tmp 14) (.seq (.reg [
    ⟨some 4, none, .mov (.const (.bool false))⟩]) (.ret)) (.skip))) (.seq (.seq (.reg [
    ⟨some 15, none, .faddr 2 (.tmp 2)⟩,
    ⟨some 16, none, .load true 1 (.tmp 15)⟩,
    ⟨some 17, none, .faddr 2 (.tmp 3)⟩,
    ⟨some 18, none, .load true 1 (.tmp 17)⟩,
    ⟨some 19, none, .bin .neq (.tmp 16) (.tmp 18)⟩]) (.cond (.tmp 19) (.seq (.reg [
    ⟨some 4, none, .mov (.const (.bool false))⟩]) (.ret)) (.skip))) (.seq (.seq (.reg [
    ⟨some 20, none, .faddr 3 (.tmp 2)⟩,
    ⟨some 21, none, .load true 1 (.tmp 20)⟩,
    ⟨some 22, none, .faddr 3 (.tmp 3)⟩,
    ⟨some 23, none, .load true 1 (.tmp 22)⟩,
    ⟨some 24, none, .bin .neq (.tmp 21) (.tmp 23)⟩]) (.cond (.tmp 24) (.seq (.reg [
    ⟨some 4, none, .mov (.const (.bool false))⟩]) (.ret)) (.skip))) (.seq (.seq (.reg [
    ⟨some 25, none, .faddr 4 (.tmp 2)⟩,
    ⟨some 26, none, .load true 1 (.tmp 25)⟩,
    ⟨some 27, none, .faddr 4 (.tmp 3)⟩,
    ⟨some 28, none, .load true 1 (.tmp 27)⟩,
    ⟨some 29, none, .bin .neq (.tmp 26) (.tmp 28)⟩]) (.cond (.tmp 29) (.seq (.reg [
    ⟨some 4, none, .mov (.const (.bool false))⟩]) (.ret)) (.skip))) (.seq (.seq (.reg [
    ⟨some 30, none, .faddr 5 (.tmp 2)⟩,
    ⟨some 31, none, .load true 1 (.tmp 30)⟩,
    ⟨some 32, none, .faddr 5 (.tmp 3)⟩,
    ⟨some 33, none, .load true 1 (.tmp 32)⟩,
    ⟨some 34, none, .bin .neq (.tmp 31) (.tmp 33)⟩]) (.cond (.tmp 34) (.seq (.reg [
    ⟨some 4, none, .mov (.const (.bool false))⟩]) (.ret)) (.skip))) (.seq (.seq (.reg [
    ⟨some 35, none, .faddr 6 (.tmp 2)⟩,
    ⟨some 36, none, .load true 1 (.tmp 35)⟩,
    ⟨some 37, none, .faddr 6 (.tmp 3)⟩,
    ⟨some 38, none, .load true 1 (.tmp 37)⟩,
    ⟨some 39, none, .bin .neq (.tmp 36) (.tmp 38)⟩]) (.cond (.tmp 39) (.seq (.reg [
    ⟨some 4, none, .mov (.const (.bool false))⟩]) (.ret)) (.skip))) (.seq (.seq (.reg [
    ⟨some 40, none, .faddr 7 (.tmp 2)⟩,
    ⟨some 41, none, .load true 1 (.tmp 40)⟩,
    ⟨some 42, none, .faddr 7 (.tmp 3)⟩,
    ⟨some 43, none, .load true 1 (.tmp 42)⟩,
    ⟨some 44, none, .call 163 [.tmp 41, .tmp 43]⟩,
    ⟨some 45, none, .not (.tmp 44)⟩]) (.cond (.tmp 45) (.seq (.reg [
    ⟨some 4, none, .mov (.const (.bool false))⟩]) (.ret)) (.skip))) (.seq (.reg [
    ⟨some 4, none, .mov (.const (.bool true))⟩]) (.ret))))))))))
theorem t130 : Try.f130.body.bind (trC e130) = some c130 := by kernel_rfl
theorem r130 : Try.f130.results.toList.mapM (trR Try.prog) = some [.tmp 4] := by kernel_rfl
theorem fn130 {args : List Value} {M : Mem} {post : Value → Mem → Prop} (hl : args.length ≤ 46) (h : VC e130 c130 (fnQ [.tmp 4] post) (initS args 46) M) : Fn Try.prog 130 args M post :=
  Fn.of' (E := e130) Try.func130 t130 rfl r130 mixed hl h
/-! laws.eqCellS -/
noncomputable def e73 : Env := ⟨Try.prog, [], 27, [(6, 10)]⟩
noncomputable def c73 : C :=
  .seq (.reg [
    ⟨some 4, none, .mov (.const (.bool false))⟩]) (.seq (.seq (.reg [
    ⟨some 6, none, .mov (.tmp 0)⟩,
    ⟨some 7, none, .lenS (.tmp 6)⟩,
    ⟨some 8, none, .mov (.tmp 1)⟩,
    ⟨some 9, none, .lenS (.tmp 8)⟩,
    ⟨some 10, none, .bin .neq (.tmp 7) (.tmp 9)⟩]) (.cond (.tmp 10) (.seq (.reg [
    ⟨some 4, none, .mov (.const (.bool false))⟩]) (.ret)) (.skip))) (.seq (.seq (.reg [
    ⟨some 5, none, .mov (.const (.int .i64 0))⟩]) (.block 0 (.loop (.seq (.seq (.reg [
    ⟨some 11, none, .mov (.tmp 5)⟩,
    ⟨some 12, none, .mov (.tmp 0)⟩,
    ⟨some 13, none, .lenS (.tmp 12)⟩,
    ⟨some 14, none, .bin .lss (.tmp 11) (.tmp 13)⟩]) (.cond (.tmp 14) (.skip) (.exit 0))) (.seq (.block 1 (.seq (.dreg 10 [
    ⟨some 17, none, .mov (.tmp 0)⟩,
    ⟨some 18, none, .mov (.tmp 5)⟩,
    ⟨some 19, none, .iaddr 8 (.tmp 17) (.tmp 18)⟩,
    ⟨some 20, none, .load false 8 (.tmp 19)⟩,
    ⟨some 21, none, .mov (.tmp 1)⟩,
    ⟨some 22, none, .mov (.tmp 5)⟩,
    ⟨some 23, none, .iaddr 8 (.tmp 21) (.tmp 22)⟩,
    ⟨some 24, none, .load false 8 (.tmp 23)⟩,
    ⟨some 25, none, .qcall 130 [.tmp 20, .tmp 24]⟩,
    ⟨some 26, none, .not (.tmp 25)⟩]) (.cond (.tmp 26) (.seq (.reg [
    ⟨some 4, none, .mov (.const (.bool false))⟩]) (.ret)) (.skip)))) (.reg [
    ⟨some 15, none, .mov (.tmp 5)⟩,
    ⟨some 16, none, .bin .add (.tmp 15) (.const (.int .i64 1))⟩,
    ⟨some 5, none, .mov (.tmp 16)⟩])))))) (.seq (.reg [
    ⟨some 4, none, .mov (.const (.bool true))⟩]) (.ret))))
theorem t73 : Try.f73.body.bind (trC e73) = some c73 := by kernel_rfl
theorem r73 : Try.f73.results.toList.mapM (trR Try.prog) = some [.tmp 4] := by kernel_rfl
theorem fn73 {args : List Value} {M : Mem} {post : Value → Mem → Prop} (hl : args.length ≤ 27) (h : VC e73 c73 (fnQ [.tmp 4] post) (initS args 27) M) : Fn Try.prog 73 args M post :=
  Fn.of' (E := e73) Try.func73 t73 rfl r73 mixed hl h
/-! laws.eqIntS -/
noncomputable def e74 : Env := ⟨Try.prog, [], 26, [(6, 9)]⟩
noncomputable def c74 : C :=
  .seq (.reg [
    ⟨some 4, none, .mov (.const (.bool false))⟩]) (.seq (.seq (.reg [
    ⟨some 6, none, .mov (.tmp 0)⟩,
    ⟨some 7, none, .lenS (.tmp 6)⟩,
    ⟨some 8, none, .mov (.tmp 1)⟩,
    ⟨some 9, none, .lenS (.tmp 8)⟩,
    ⟨some 10, none, .bin .neq (.tmp 7) (.tmp 9)⟩]) (.cond (.tmp 10) (.seq (.reg [
    ⟨some 4, none, .mov (.const (.bool false))⟩]) (.ret)) (.skip))) (.seq (.seq (.reg [
    ⟨some 5, none, .mov (.const (.int .i64 0))⟩]) (.block 0 (.loop (.seq (.seq (.reg [
    ⟨some 11, none, .mov (.tmp 5)⟩,
    ⟨some 12, none, .mov (.tmp 0)⟩,
    ⟨some 13, none, .lenS (.tmp 12)⟩,
    ⟨some 14, none, .bin .lss (.tmp 11) (.tmp 13)⟩]) (.cond (.tmp 14) (.skip) (.exit 0))) (.seq (.block 1 (.seq (.dreg 9 [
    ⟨some 17, none, .mov (.tmp 0)⟩,
    ⟨some 18, none, .mov (.tmp 5)⟩,
    ⟨some 19, none, .iaddr 1 (.tmp 17) (.tmp 18)⟩,
    ⟨some 20, none, .load true 1 (.tmp 19)⟩,
    ⟨some 21, none, .mov (.tmp 1)⟩,
    ⟨some 22, none, .mov (.tmp 5)⟩,
    ⟨some 23, none, .iaddr 1 (.tmp 21) (.tmp 22)⟩,
    ⟨some 24, none, .load true 1 (.tmp 23)⟩,
    ⟨some 25, none, .bin .neq (.tmp 20) (.tmp 24)⟩]) (.cond (.tmp 25) (.seq (.reg [
    ⟨some 4, none, .mov (.const (.bool false))⟩]) (.ret)) (.skip)))) (.reg [
    ⟨some 15, none, .mov (.tmp 5)⟩,
    ⟨some 16, none, .bin .add (.tmp 15) (.const (.int .i64 1))⟩,
    ⟨some 5, none, .mov (.tmp 16)⟩])))))) (.seq (.reg [
    ⟨some 4, none, .mov (.const (.bool true))⟩]) (.ret))))
theorem t74 : Try.f74.body.bind (trC e74) = some c74 := by kernel_rfl
theorem r74 : Try.f74.results.toList.mapM (trR Try.prog) = some [.tmp 4] := by kernel_rfl
theorem fn74 {args : List Value} {M : Mem} {post : Value → Mem → Prop} (hl : args.length ≤ 26) (h : VC e74 c74 (fnQ [.tmp 4] post) (initS args 26) M) : Fn Try.prog 74 args M post :=
  Fn.of' (E := e74) Try.func74 t74 rfl r74 mixed hl h
/-! laws.eqHeap -/
noncomputable def e27 : Env := ⟨Try.prog, [2, 3], 73, []⟩
noncomputable def c27 : C :=
  .seq (.reg [
    ⟨some 2, none, .box true (.tmp 0)⟩,
    ⟨some 3, none, .box true (.tmp 1)⟩,
    ⟨some 4, none, .mov (.const (.bool false))⟩]) (.seq (.seq (.reg [
    ⟨some 5, none, .faddr 0 (.tmp 2)⟩,
    ⟨some 6, none, .load true 1 (.tmp 5)⟩,
    ⟨some 7, none, .faddr 0 (.tmp 3)⟩,
    ⟨some 8, none, .load true 1 (.tmp 7)⟩,
    ⟨some 9, none, .bin .neq (.tmp 6) (.tmp 8)⟩]) (.cond (.tmp 9) (.seq (.reg [
    ⟨some 4, none, .mov (.const (.bool false))⟩]) (.ret)) (.skip))) (.seq (.seq (.reg [
    ⟨some 10, none, .faddr 1 (.tmp 2)⟩,
    ⟨some 11, none, .load true 1 (.tmp 10)⟩,
    ⟨some 12, none, .faddr 1 (.tmp 3)⟩,
    ⟨some 13, none, .load true 1 (.tmp 12)⟩,
    ⟨some 14, none, .bin .neq (.tmp 11) (.tmp 13)⟩]) (.cond (.tmp 14) (.seq (.reg [
    ⟨some 4, none, .mov (.const (.bool false))⟩]) (.ret)) (.skip))) (.seq (.seq (.reg [
    ⟨some 15, none, .faddr 2 (.tmp 2)⟩,
    ⟨some 16, none, .load true 1 (.tmp 15)⟩,
    ⟨some 17, none, .faddr 2 (.tmp 3)⟩,
    ⟨some 18, none, .load true 1 (.tmp 17)⟩,
    ⟨some 19, none, .bin .neq (.tmp 16) (.tmp 18)⟩]) (.cond (.tmp 19) (.seq (.reg [
    ⟨some 4, none, .mov (.const (.bool false))⟩]) (.ret)) (.skip))) (.seq (.seq (.reg [
    ⟨some 20, none, .faddr 3 (.tmp 2)⟩,
    ⟨some 21, none, .load true 1 (.tmp 20)⟩,
    ⟨some 22, none, .faddr 3 (.tmp 3)⟩,
    ⟨some 23, none, .load true 1 (.tmp 22)⟩,
    ⟨some 24, none, .call 72 [.tmp 21, .tmp 23]⟩,
    ⟨some 25, none, .not (.tmp 24)⟩]) (.cond (.tmp 25) (.seq (.reg [
    ⟨some 4, none, .mov (.const (.bool false))⟩]) (.ret)) (.skip))) (.seq (.seq (.reg [
    ⟨some 26, none, .faddr 4 (.tmp 2)⟩,
    ⟨some 27, none, .load true 1 (.tmp 26)⟩,
    ⟨some 28, none, .faddr 4 (.tmp 3)⟩,
    ⟨some 29, none, .load true 1 (.tmp 28)⟩,
    ⟨some 30, none, .call 73 [.tmp 27, .tmp 29]⟩,
    ⟨some 31, none, .not (.tmp 30)⟩]) (.cond (.tmp 31) (.seq (.reg [
    ⟨some 4, none, .mov (.const (.bool false))⟩]) (.ret)) (.skip))) (.seq (.seq (.reg [
    ⟨some 32, none, .faddr 5 (.tmp 2)⟩,
    ⟨some 33, none, .load true 1 (.tmp 32)⟩,
    ⟨some 34, none, .faddr 5 (.tmp 3)⟩,
    ⟨some 35, none, .load true 1 (.tmp 34)⟩,
    ⟨some 36, none, .bin .neq (.tmp 33) (.tmp 35)⟩]) (.cond (.tmp 36) (.seq (.reg [
    ⟨some 4, none, .mov (.const (.bool false))⟩]) (.ret)) (.skip))) (.seq (.seq (.reg [
    ⟨some 37, none, .faddr 6 (.tmp 2)⟩,
    ⟨some 38, none, .load true 1 (.tmp 37)⟩,
    ⟨some 39, none, .faddr 6 (.tmp 3)⟩,
    ⟨some 40, none, .load true 1 (.tmp 39)⟩,
    ⟨some 41, none, .bin .neq (.tmp 38) (.tmp 40)⟩]) (.cond (.tmp 41) (.seq (.reg [
    ⟨some 4, none, .mov (.const (.bool false))⟩]) (.ret)) (.skip))) (.seq (.seq (.reg [
    ⟨some 42, none, .faddr 7 (.tmp 2)⟩,
    ⟨some 43, none, .load true 1 (.tmp 42)⟩,
    ⟨some 44, none, .faddr 7 (.tmp 3)⟩,
    ⟨some 45, none, .load true 1 (.tmp 44)⟩,
    ⟨some 46, none, .bin .neq (.tmp 43) (.tmp 45)⟩]) (.cond (.tmp 46) (.seq (.reg [
    ⟨some 4, none, .mov (.const (.bool false))⟩]) (.ret)) (.skip))) (.seq (.seq (.reg [
    ⟨some 47, none, .faddr 8 (.tmp 2)⟩,
    ⟨some 48, none, .load true 1 (.tmp 47)⟩,
    ⟨some 49, none, .faddr 8 (.tmp 3)⟩,
    ⟨some 50, none, .load true 1 (.tmp 49)⟩,
    ⟨some 51, none, .call 74 [.tmp 48, .tmp 50]⟩,
    ⟨some 52, none, .not (.tmp 51)⟩]) (.cond (.tmp 52) (.seq (.reg [
    ⟨some 4, none, .mov (.const (.bool false))⟩]) (.ret)) (.skip))) (.seq (.seq (.reg [
    ⟨some 53, none, .faddr 9 (.tmp 2)⟩,
    ⟨some 54, none, .load true 1 (.tmp 53)⟩,
    ⟨some 55, none, .faddr 9 (.tmp 3)⟩,
    ⟨some 56, none, .load true 1 (.tmp 55)⟩,
    ⟨some 57, none, .bin .neq (.tmp 54) (.tmp 56)⟩]) (.cond (.tmp 57) (.seq (.reg [
    ⟨some 4, none, .mov (.const (.bool false))⟩]) (.ret)) (.skip))) (.seq (.seq (.reg [
    ⟨some 58, none, .faddr 10 (.tmp 2)⟩,
    ⟨some 59, none, .load true 1 (.tmp 58)⟩,
    ⟨some 60, none, .faddr 10 (.tmp 3)⟩,
    ⟨some 61, none, .load true 1 (.tmp 60)⟩,
    ⟨some 62, none, .bin .neq (.tmp 59) (.tmp 61)⟩]) (.cond (.tmp 62) (.seq (.reg [
    ⟨some 4, none, .mov (.const (.bool false))⟩]) (.ret)) (.skip))) (.seq (.seq (.reg [
    ⟨some 63, none, .faddr 11 (.tmp 2)⟩,
    ⟨some 64, none, .load true 1 (.tmp 63)⟩,
    ⟨some 65, none, .faddr 11 (.tmp 3)⟩,
    ⟨some 66, none, .load true 1 (.tmp 65)⟩,
    ⟨some 67, none, .bin .neq (.tmp 64) (.tmp 66)⟩]) (.cond (.tmp 67) (.seq (.reg [
    ⟨some 4, none, .mov (.const (.bool false))⟩]) (.ret)) (.skip))) (.seq (.seq (.reg [
    ⟨some 68, none, .faddr 12 (.tmp 2)⟩,
    ⟨some 69, none, .load true 1 (.tmp 68)⟩,
    ⟨some 70, none, .faddr 12 (.tmp 3)⟩,
    ⟨some 71, none, .load true 1 (.tmp 70)⟩,
    ⟨some 72, none, .bin .neq (.tmp 69) (.tmp 71)⟩]) (.cond (.tmp 72) (.seq (.reg [
    ⟨some 4, none, .mov (.const (.bool false))⟩]) (.ret)) (.skip))) (.seq (.reg [
    ⟨some 4, none, .mov (.const (.bool true))⟩]) (.ret)))))))))))))))
theorem t27 : Try.f27.body.bind (trC e27) = some c27 := by kernel_rfl
theorem r27 : Try.f27.results.toList.mapM (trR Try.prog) = some [.tmp 4] := by kernel_rfl
theorem fn27 {args : List Value} {M : Mem} {post : Value → Mem → Prop} (hl : args.length ≤ 73) (h : VC e27 c27 (fnQ [.tmp 4] post) (initS args 73) M) : Fn Try.prog 27 args M post :=
  Fn.of' (E := e27) Try.func27 t27 rfl r27 mixed hl h
/-! laws.eqBoolS -/
noncomputable def e46 : Env := ⟨Try.prog, [], 26, [(6, 9)]⟩
noncomputable def c46 : C :=
  .seq (.reg [
    ⟨some 4, none, .mov (.const (.bool false))⟩]) (.seq (.seq (.reg [
    ⟨some 6, none, .mov (.tmp 0)⟩,
    ⟨some 7, none, .lenS (.tmp 6)⟩,
    ⟨some 8, none, .mov (.tmp 1)⟩,
    ⟨some 9, none, .lenS (.tmp 8)⟩,
    ⟨some 10, none, .bin .neq (.tmp 7) (.tmp 9)⟩]) (.cond (.tmp 10) (.seq (.reg [
    ⟨some 4, none, .mov (.const (.bool false))⟩]) (.ret)) (.skip))) (.seq (.seq (.reg [
    ⟨some 5, none, .mov (.const (.int .i64 0))⟩]) (.block 0 (.loop (.seq (.seq (.reg [
    ⟨some 11, none, .mov (.tmp 5)⟩,
    ⟨some 12, none, .mov (.tmp 0)⟩,
    ⟨some 13, none, .lenS (.tmp 12)⟩,
    ⟨some 14, none, .bin .lss (.tmp 11) (.tmp 13)⟩]) (.cond (.tmp 14) (.skip) (.exit 0))) (.seq (.block 1 (.seq (.dreg 9 [
    ⟨some 17, none, .mov (.tmp 0)⟩,
    ⟨some 18, none, .mov (.tmp 5)⟩,
    ⟨some 19, none, .iaddr 1 (.tmp 17) (.tmp 18)⟩,
    ⟨some 20, none, .load true 1 (.tmp 19)⟩,
    ⟨some 21, none, .mov (.tmp 1)⟩,
    ⟨some 22, none, .mov (.tmp 5)⟩,
    ⟨some 23, none, .iaddr 1 (.tmp 21) (.tmp 22)⟩,
    ⟨some 24, none, .load true 1 (.tmp 23)⟩,
    ⟨some 25, none, .eqB true (.tmp 20) (.tmp 24)⟩]) (.cond (.tmp 25) (.seq (.reg [
    ⟨some 4, none, .mov (.const (.bool false))⟩]) (.ret)) (.skip)))) (.reg [
    ⟨some 15, none, .mov (.tmp 5)⟩,
    ⟨some 16, none, .bin .add (.tmp 15) (.const (.int .i64 1))⟩,
    ⟨some 5, none, .mov (.tmp 16)⟩])))))) (.seq (.reg [
    ⟨some 4, none, .mov (.const (.bool true))⟩]) (.ret))))
theorem t46 : Try.f46.body.bind (trC e46) = some c46 := by kernel_rfl
theorem r46 : Try.f46.results.toList.mapM (trR Try.prog) = some [.tmp 4] := by kernel_rfl
theorem fn46 {args : List Value} {M : Mem} {post : Value → Mem → Prop} (hl : args.length ≤ 26) (h : VC e46 c46 (fnQ [.tmp 4] post) (initS args 26) M) : Fn Try.prog 46 args M post :=
  Fn.of' (E := e46) Try.func46 t46 rfl r46 mixed hl h
/-! laws.eqAct -/
noncomputable def e68 : Env := ⟨Try.prog, [2, 3], 30, []⟩
noncomputable def c68 : C :=
  .seq (.reg [
    ⟨some 2, none, .box true (.tmp 0)⟩,
    ⟨some 3, none, .box true (.tmp 1)⟩,
    ⟨some 4, none, .mov (.const (.bool false))⟩]) (.seq (.seq (.reg [
    ⟨some 5, none, .faddr 0 (.tmp 2)⟩,
    ⟨some 6, none, .load true 1 (.tmp 5)⟩,
    ⟨some 7, none, .faddr 0 (.tmp 3)⟩,
    ⟨some 8, none, .load true 1 (.tmp 7)⟩,
    ⟨some 9, none, .bin .neq (.tmp 6) (.tmp 8)⟩]) (.cond (.tmp 9) (.seq (.reg [
    ⟨some 4, none, .mov (.const (.bool false))⟩]) (.ret)) (.skip))) (.seq (.seq (.reg [
    ⟨some 10, none, .faddr 1 (.tmp 2)⟩,
    ⟨some 11, none, .load true 1 (.tmp 10)⟩,
    ⟨some 12, none, .faddr 1 (.tmp 3)⟩,
    ⟨some 13, none, .load true 1 (.tmp 12)⟩,
    ⟨some 14, none, .bin .neq (.tmp 11) (.tmp 13)⟩]) (.cond (.tmp 14) (.seq (.reg [
    ⟨some 4, none, .mov (.const (.bool false))⟩]) (.ret)) (.skip))) (.seq (.seq (.reg [
    ⟨some 15, none, .faddr 2 (.tmp 2)⟩,
    ⟨some 16, none, .load true 1 (.tmp 15)⟩,
    ⟨some 17, none, .faddr 2 (.tmp 3)⟩,
    ⟨some 18, none, .load true 1 (.tmp 17)⟩,
    ⟨some 19, none, .bin .neq (.tmp 16) (.tmp 18)⟩]) (.cond (.tmp 19) (.seq (.reg [
    ⟨some 4, none, .mov (.const (.bool false))⟩]) (.ret)) (.skip))) (.seq (.seq (.reg [
    ⟨some 20, none, .faddr 3 (.tmp 2)⟩,
    ⟨some 21, none, .load true 1 (.tmp 20)⟩,
    ⟨some 22, none, .faddr 3 (.tmp 3)⟩,
    ⟨some 23, none, .load true 1 (.tmp 22)⟩,
    ⟨some 24, none, .bin .neq (.tmp 21) (.tmp 23)⟩]) (.cond (.tmp 24) (.seq (.reg [
    ⟨some 4, none, .mov (.const (.bool false))⟩]) (.ret)) (.skip))) (.seq (.seq (.reg [
    ⟨some 25, none, .faddr 4 (.tmp 2)⟩,
    ⟨some 26, none, .load true 1 (.tmp 25)⟩,
    ⟨some 27, none, .faddr 4 (.tmp 3)⟩,
    ⟨some 28, none, .load true 1 (.tmp 27)⟩,
    ⟨some 29, none, .bin .neq (.tmp 26) (.tmp 28)⟩]) (.cond (.tmp 29) (.seq (.reg [
    ⟨some 4, none, .mov (.const (.bool false))⟩]) (.ret)) (.skip))) (.seq (.reg [
    ⟨some 4, none, .mov (.const (.bool true))⟩]) (.ret)))))))
theorem t68 : Try.f68.body.bind (trC e68) = some c68 := by kernel_rfl
theorem r68 : Try.f68.results.toList.mapM (trR Try.prog) = some [.tmp 4] := by kernel_rfl
theorem fn68 {args : List Value} {M : Mem} {post : Value → Mem → Prop} (hl : args.length ≤ 30) (h : VC e68 c68 (fnQ [.tmp 4] post) (initS args 30) M) : Fn Try.prog 68 args M post :=
  Fn.of' (E := e68) Try.func68 t68 rfl r68 mixed hl h
/-! laws.eqActS -/
noncomputable def e22 : Env := ⟨Try.prog, [], 27, [(6, 10)]⟩
noncomputable def c22 : C :=
  .seq (.reg [
    ⟨some 4, none, .mov (.const (.bool false))⟩]) (.seq (.seq (.reg [
    ⟨some 6, none, .mov (.tmp 0)⟩,
    ⟨some 7, none, .lenS (.tmp 6)⟩,
    ⟨some 8, none, .mov (.tmp 1)⟩,
    ⟨some 9, none, .lenS (.tmp 8)⟩,
    ⟨some 10, none, .bin .neq (.tmp 7) (.tmp 9)⟩]) (.cond (.tmp 10) (.seq (.reg [
    ⟨some 4, none, .mov (.const (.bool false))⟩]) (.ret)) (.skip))) (.seq (.seq (.reg [
    ⟨some 5, none, .mov (.const (.int .i64 0))⟩]) (.block 0 (.loop (.seq (.seq (.reg [
    ⟨some 11, none, .mov (.tmp 5)⟩,
    ⟨some 12, none, .mov (.tmp 0)⟩,
    ⟨some 13, none, .lenS (.tmp 12)⟩,
    ⟨some 14, none, .bin .lss (.tmp 11) (.tmp 13)⟩]) (.cond (.tmp 14) (.skip) (.exit 0))) (.seq (.block 1 (.seq (.dreg 10 [
    ⟨some 17, none, .mov (.tmp 0)⟩,
    ⟨some 18, none, .mov (.tmp 5)⟩,
    ⟨some 19, none, .iaddr 5 (.tmp 17) (.tmp 18)⟩,
    ⟨some 20, none, .load false 5 (.tmp 19)⟩,
    ⟨some 21, none, .mov (.tmp 1)⟩,
    ⟨some 22, none, .mov (.tmp 5)⟩,
    ⟨some 23, none, .iaddr 5 (.tmp 21) (.tmp 22)⟩,
    ⟨some 24, none, .load false 5 (.tmp 23)⟩,
    ⟨some 25, none, .qcall 68 [.tmp 20, .tmp 24]⟩,
    ⟨some 26, none, .not (.tmp 25)⟩]) (.cond (.tmp 26) (.seq (.reg [
    ⟨some 4, none, .mov (.const (.bool false))⟩]) (.ret)) (.skip)))) (.reg [
    ⟨some 15, none, .mov (.tmp 5)⟩,
    ⟨some 16, none, .bin .add (.tmp 15) (.const (.int .i64 1))⟩,
    ⟨some 5, none, .mov (.tmp 16)⟩])))))) (.seq (.reg [
    ⟨some 4, none, .mov (.const (.bool true))⟩]) (.ret))))
theorem t22 : Try.f22.body.bind (trC e22) = some c22 := by kernel_rfl
theorem r22 : Try.f22.results.toList.mapM (trR Try.prog) = some [.tmp 4] := by kernel_rfl
theorem fn22 {args : List Value} {M : Mem} {post : Value → Mem → Prop} (hl : args.length ≤ 27) (h : VC e22 c22 (fnQ [.tmp 4] post) (initS args 27) M) : Fn Try.prog 22 args M post :=
  Fn.of' (E := e22) Try.func22 t22 rfl r22 mixed hl h
end Go.Proofs.Ytcmllambknfleaa.E
/- The laws' comparisons of words, pairs, cells, heaps: what they answer. Conditions: none. -/
set_option linter.unusedVariables false
set_option linter.unusedSimpArgs false
set_option maxRecDepth 100000
namespace Go.Proofs.Ytcmllambknfleaa.E
open Go
open Classical
def wa (w : Word) : Value := .agg (wv w).toArray
def pa (p : Pair) : Value := .agg (pv p).toArray
def ca (x : CS) : Value := .agg (csv x).toArray
def aa (a : Act) : Value := .agg (av a).toArray
theorem eqWord_q {M : Mem} {a b : Word} : Qt Try.prog 37 [wa a, wa b] M (.bool (decide (a = b))) := by
  refine fn37 (by simp) ?_
  repeat' (first
    | (refine vl_add rfl rfl (by omega) ?_)
    | (refine vl_sub rfl rfl (by omega) ?_)
    | (refine vl_mul rfl rfl (by omega) ?_)
    | (refine vl_pure rfl ?_)
    | (refine vl_gy rfl rfl ?_)
    | (refine vl_gn rfl rfl ?_)
    | (refine vl_gu rfl ?_)
    | (refine vl_nil ?_)
    | (refine VC.seq ?_)
    | (refine VC.regV ?_)
    | (refine vl_idx rfl rfl (by omega) ?_)
    | (refine vl_alloc ?_)
    | (refine vl_stw rfl rfl rfl rfl (by first | rfl | assumption) (Nat.le_of_ble_eq_true rfl) ?_)
    | (refine sk_zero ?_)
    | (refine sk_succ ?_)
    | (refine wk_nil ?_)
    | (refine wk_cons ?_)
    | (refine vl_box rfl rfl ?_)
    | (refine vl_bsl rfl ?_)
    | (refine VC.dregV ?_)
    | (refine VC.block ?_)
    | (refine VC.ret ?_)
    | (refine VC.exit ?_)
    | (refine VC.skip ?_)
    | (refine seqQ_n ?_)
    | (refine seqQ_r ?_)
    | (refine seqQ_e ?_)
    | (refine blkQ_n ?_)
    | (refine blkQ_r ?_)
    | (refine blkQ_e ?_)
    | (refine blkQ_o rfl ?_)
    | (refine vl_gs rfl (fun hb => ?_) (fun hb => ?_))
    | (refine vl_ps rfl (fun hb => ?_) (fun hb => ?_))
    | (refine VC.cond _ rfl (fun hb => ?_) (fun hb => ?_)))
  all_goals (refine fnQ_r rfl (Mem.le_refl _) (q_end ?_))
  all_goals (cases a; cases b; simp_all)
theorem eqPair_q {M : Mem} {a b : Pair} : Qt Try.prog 176 [pa a, pa b] M (.bool (decide (a = b))) := by
  refine fn176 (by simp) ?_
  repeat' (first
    | (refine vl_add rfl rfl (by omega) ?_)
    | (refine vl_sub rfl rfl (by omega) ?_)
    | (refine vl_mul rfl rfl (by omega) ?_)
    | (refine vl_pure rfl ?_)
    | (refine vl_gy rfl rfl ?_)
    | (refine vl_gn rfl rfl ?_)
    | (refine vl_gu rfl ?_)
    | (refine vl_nil ?_)
    | (refine VC.seq ?_)
    | (refine VC.regV ?_)
    | (refine vl_idx rfl rfl (by omega) ?_)
    | (refine vl_alloc ?_)
    | (refine vl_stw rfl rfl rfl rfl (by first | rfl | assumption) (Nat.le_of_ble_eq_true rfl) ?_)
    | (refine sk_zero ?_)
    | (refine sk_succ ?_)
    | (refine wk_nil ?_)
    | (refine wk_cons ?_)
    | (refine vl_box rfl rfl ?_)
    | (refine vl_bsl rfl ?_)
    | (refine vl_q rfl (eqWord_q (a := a.key) (b := b.key)) ?_)
    | (refine vl_cq rfl (eqWord_q (a := a.key) (b := b.key)) ?_)
    | (refine vl_q rfl (eqWord_q (a := a.val) (b := b.val)) ?_)
    | (refine vl_cq rfl (eqWord_q (a := a.val) (b := b.val)) ?_)
    | (refine VC.dregV ?_)
    | (refine VC.block ?_)
    | (refine VC.ret ?_)
    | (refine VC.exit ?_)
    | (refine VC.skip ?_)
    | (refine seqQ_n ?_)
    | (refine seqQ_r ?_)
    | (refine seqQ_e ?_)
    | (refine blkQ_n ?_)
    | (refine blkQ_r ?_)
    | (refine blkQ_e ?_)
    | (refine blkQ_o rfl ?_)
    | (refine vl_gs rfl (fun hb => ?_) (fun hb => ?_))
    | (refine vl_ps rfl (fun hb => ?_) (fun hb => ?_))
    | (refine VC.cond _ rfl (fun hb => ?_) (fun hb => ?_)))
  all_goals (refine fnQ_r rfl (Mem.le_refl _) (q_end ?_))
  all_goals (cases a; cases b; simp_all)
theorem eqAct_q {M : Mem} {a b : Act} : Qt Try.prog 68 [aa a, aa b] M (.bool (decide (a = b))) := by
  refine fn68 (by simp) ?_
  repeat' (first
    | (refine vl_add rfl rfl (by omega) ?_)
    | (refine vl_sub rfl rfl (by omega) ?_)
    | (refine vl_mul rfl rfl (by omega) ?_)
    | (refine vl_pure rfl ?_)
    | (refine vl_gy rfl rfl ?_)
    | (refine vl_gn rfl rfl ?_)
    | (refine vl_gu rfl ?_)
    | (refine vl_nil ?_)
    | (refine VC.seq ?_)
    | (refine VC.regV ?_)
    | (refine vl_idx rfl rfl (by omega) ?_)
    | (refine vl_alloc ?_)
    | (refine vl_stw rfl rfl rfl rfl (by first | rfl | assumption) (Nat.le_of_ble_eq_true rfl) ?_)
    | (refine sk_zero ?_)
    | (refine sk_succ ?_)
    | (refine wk_nil ?_)
    | (refine wk_cons ?_)
    | (refine vl_box rfl rfl ?_)
    | (refine vl_bsl rfl ?_)
    | (refine VC.dregV ?_)
    | (refine VC.block ?_)
    | (refine VC.ret ?_)
    | (refine VC.exit ?_)
    | (refine VC.skip ?_)
    | (refine seqQ_n ?_)
    | (refine seqQ_r ?_)
    | (refine seqQ_e ?_)
    | (refine blkQ_n ?_)
    | (refine blkQ_r ?_)
    | (refine blkQ_e ?_)
    | (refine blkQ_o rfl ?_)
    | (refine vl_gs rfl (fun hb => ?_) (fun hb => ?_))
    | (refine vl_ps rfl (fun hb => ?_) (fun hb => ?_))
    | (refine VC.cond _ rfl (fun hb => ?_) (fun hb => ?_)))
  all_goals (refine fnQ_r rfl (Mem.le_refl _) (q_end ?_))
  all_goals (cases a; cases b; simp_all)
theorem eqWordS_q {M : Mem} {va vb : Value} {xs ys : List Word} (ha : Sl M 3 wv va xs) (hb : Sl M 3 wv vb ys) : Qt Try.prog 72 [va, vb] M (.bool (decide (xs = ys))) := by
  obtain ⟨aa, ca, ea⟩ := ha.len
  obtain ⟨ab, cb, eb⟩ := hb.len
  refine fn72 (by simp) ?_
  subst ea; subst eb
  repeat' (first
    | (refine vl_add rfl rfl (by omega) ?_)
    | (refine vl_sub rfl rfl (by omega) ?_)
    | (refine vl_mul rfl rfl (by omega) ?_)
    | (refine vl_pure rfl ?_)
    | (refine vl_gy rfl rfl ?_)
    | (refine vl_gn rfl rfl ?_)
    | (refine vl_gu rfl ?_)
    | (refine vl_nil ?_)
    | (refine VC.seq ?_)
    | (refine VC.regV ?_)
    | (refine vl_idx rfl rfl (by omega) ?_)
    | (refine vl_alloc ?_)
    | (refine vl_stw rfl rfl rfl rfl (by first | rfl | assumption) (Nat.le_of_ble_eq_true rfl) ?_)
    | (refine sk_zero ?_)
    | (refine sk_succ ?_)
    | (refine wk_nil ?_)
    | (refine wk_cons ?_)
    | (refine vl_box rfl rfl ?_)
    | (refine vl_bsl rfl ?_)
    | (refine VC.dregV ?_)
    | (refine VC.block ?_)
    | (refine VC.ret ?_)
    | (refine VC.exit ?_)
    | (refine VC.skip ?_)
    | (refine seqQ_n ?_)
    | (refine seqQ_r ?_)
    | (refine seqQ_e ?_)
    | (refine blkQ_n ?_)
    | (refine blkQ_r ?_)
    | (refine blkQ_e ?_)
    | (refine blkQ_o rfl ?_)
    | (refine vl_gs rfl (fun hb => ?_) (fun hb => ?_))
    | (refine vl_ps rfl (fun hb => ?_) (fun hb => ?_)))
  refine VC.cond _ rfl (fun h => ?_) (fun h => ?_)
  · repeat' (first
      | (refine vl_add rfl rfl (by omega) ?_)
      | (refine vl_sub rfl rfl (by omega) ?_)
      | (refine vl_mul rfl rfl (by omega) ?_)
      | (refine vl_pure rfl ?_)
      | (refine vl_gy rfl rfl ?_)
      | (refine vl_gn rfl rfl ?_)
      | (refine vl_gu rfl ?_)
      | (refine vl_nil ?_)
      | (refine VC.seq ?_)
      | (refine VC.regV ?_)
      | (refine vl_idx rfl rfl (by omega) ?_)
      | (refine vl_alloc ?_)
      | (refine vl_stw rfl rfl rfl rfl (by first | rfl | assumption) (Nat.le_of_ble_eq_true rfl) ?_)
      | (refine sk_zero ?_)
      | (refine sk_succ ?_)
      | (refine wk_nil ?_)
      | (refine wk_cons ?_)
      | (refine vl_box rfl rfl ?_)
      | (refine vl_bsl rfl ?_)
      | (refine VC.dregV ?_)
      | (refine VC.block ?_)
      | (refine VC.ret ?_)
      | (refine VC.exit ?_)
      | (refine VC.skip ?_)
      | (refine seqQ_n ?_)
      | (refine seqQ_r ?_)
      | (refine seqQ_e ?_)
      | (refine blkQ_n ?_)
      | (refine blkQ_r ?_)
      | (refine blkQ_e ?_)
      | (refine blkQ_o rfl ?_)
      | (refine vl_gs rfl (fun hb => ?_) (fun hb => ?_))
      | (refine vl_ps rfl (fun hb => ?_) (fun hb => ?_))
      | (refine VC.cond _ rfl (fun hb => ?_) (fun hb => ?_)))
    refine fnQ_r rfl (Mem.le_refl _) (q_end ?_)
    have : xs ≠ ys := fun e => by have e2 := congrArg List.length e; first | (simp only [List.length_map] at e2; simp [e2] at h) | (simp [e2] at h)
    simp [this]
  have hbd := ha.bound
  have hl : xs.length = ys.length := Int.ofNat_inj.1 (by simpa using h)
  repeat' (first
    | (refine vl_add rfl rfl (by omega) ?_)
    | (refine vl_sub rfl rfl (by omega) ?_)
    | (refine vl_mul rfl rfl (by omega) ?_)
    | (refine vl_pure rfl ?_)
    | (refine vl_gy rfl rfl ?_)
    | (refine vl_gn rfl rfl ?_)
    | (refine vl_gu rfl ?_)
    | (refine vl_nil ?_)
    | (refine VC.seq ?_)
    | (refine VC.regV ?_)
    | (refine vl_idx rfl rfl (by omega) ?_)
    | (refine vl_alloc ?_)
    | (refine vl_stw rfl rfl rfl rfl (by first | rfl | assumption) (Nat.le_of_ble_eq_true rfl) ?_)
    | (refine sk_zero ?_)
    | (refine sk_succ ?_)
    | (refine wk_nil ?_)
    | (refine wk_cons ?_)
    | (refine vl_box rfl rfl ?_)
    | (refine vl_bsl rfl ?_)
    | (refine VC.dregV ?_)
    | (refine VC.block ?_)
    | (refine VC.ret ?_)
    | (refine VC.exit ?_)
    | (refine VC.skip ?_)
    | (refine seqQ_n ?_)
    | (refine seqQ_r ?_)
    | (refine seqQ_e ?_)
    | (refine blkQ_n ?_)
    | (refine blkQ_r ?_)
    | (refine blkQ_e ?_)
    | (refine blkQ_o rfl ?_)
    | (refine vl_gs rfl (fun hb => ?_) (fun hb => ?_))
    | (refine vl_ps rfl (fun hb => ?_) (fun hb => ?_)))
  refine VC.loop (α := Nat) (fun i => [(0, .v (.slice aa xs.length ca)), (1, .v (.slice ab ys.length cb)), (5, .v (.int .i64 i))]) (fun k i M' => k = xs.length - i ∧ i ≤ xs.length ∧ M' = M ∧ xs.take i = ys.take i)
    ⟨_, 0, M, ⟨rfl, rfl, rfl, trivial⟩, Mem.le_refl _, rfl, Nat.zero_le _, rfl, by simp⟩ ?_
  rintro k i M' ⟨rfl, hi, rfl, hpre⟩
  repeat' (first
    | (refine vl_add rfl rfl (by omega) ?_)
    | (refine vl_sub rfl rfl (by omega) ?_)
    | (refine vl_mul rfl rfl (by omega) ?_)
    | (refine vl_pure rfl ?_)
    | (refine vl_gy rfl rfl ?_)
    | (refine vl_gn rfl rfl ?_)
    | (refine vl_gu rfl ?_)
    | (refine vl_nil ?_)
    | (refine VC.seq ?_)
    | (refine VC.regV ?_)
    | (refine vl_idx rfl rfl (by omega) ?_)
    | (refine vl_alloc ?_)
    | (refine vl_stw rfl rfl rfl rfl (by first | rfl | assumption) (Nat.le_of_ble_eq_true rfl) ?_)
    | (refine sk_zero ?_)
    | (refine sk_succ ?_)
    | (refine wk_nil ?_)
    | (refine wk_cons ?_)
    | (refine vl_box rfl rfl ?_)
    | (refine vl_bsl rfl ?_)
    | (refine VC.dregV ?_)
    | (refine VC.block ?_)
    | (refine VC.ret ?_)
    | (refine VC.exit ?_)
    | (refine VC.skip ?_)
    | (refine seqQ_n ?_)
    | (refine seqQ_r ?_)
    | (refine seqQ_e ?_)
    | (refine blkQ_n ?_)
    | (refine blkQ_r ?_)
    | (refine blkQ_e ?_)
    | (refine blkQ_o rfl ?_)
    | (refine vl_gs rfl (fun hb => ?_) (fun hb => ?_))
    | (refine vl_ps rfl (fun hb => ?_) (fun hb => ?_)))
  refine VC.cond _ rfl (fun h => ?_) (fun h => ?_)
  · have hi : i < xs.length := by simpa using h
    obtain ⟨x, gx⟩ : ∃ x, xs[i]? = some x := ⟨_, List.getElem?_eq_getElem hi⟩
    obtain ⟨y, gy⟩ : ∃ y, ys[i]? = some y := ⟨_, List.getElem?_eq_getElem (hl ▸ hi)⟩
    obtain ⟨b1, o1, rfl, h1⟩ := ha.at2 (fun _ => rfl) gx
    obtain ⟨b2, o2, rfl, h2⟩ := hb.at2 (fun _ => rfl) gy
    repeat' (first
      | (refine vl_add rfl rfl (by omega) ?_)
      | (refine vl_sub rfl rfl (by omega) ?_)
      | (refine vl_mul rfl rfl (by omega) ?_)
      | (refine vl_pure rfl ?_)
      | (refine vl_gy rfl rfl ?_)
      | (refine vl_gn rfl rfl ?_)
      | (refine vl_gu rfl ?_)
      | (refine vl_ld rfl (by first | exact h1 | exact h2) ?_)
      | (refine vl_nil ?_)
      | (refine VC.seq ?_)
      | (refine VC.regV ?_)
      | (refine vl_idx rfl rfl (by omega) ?_)
      | (refine vl_lds rfl (by first | exact h1 | exact h2) ?_)
      | (refine vl_alloc ?_)
      | (refine vl_stw rfl rfl rfl rfl (by first | rfl | assumption) (Nat.le_of_ble_eq_true rfl) ?_)
      | (refine sk_zero ?_)
      | (refine sk_succ ?_)
      | (refine wk_nil ?_)
      | (refine wk_cons ?_)
      | (refine vl_box rfl rfl ?_)
      | (refine vl_bsl rfl ?_)
      | (refine vl_q rfl (eqWord_q) ?_)
      | (refine vl_cq rfl (eqWord_q) ?_)
      | (refine VC.dregV ?_)
      | (refine VC.block ?_)
      | (refine VC.ret ?_)
      | (refine VC.exit ?_)
      | (refine VC.skip ?_)
      | (refine seqQ_n ?_)
      | (refine seqQ_r ?_)
      | (refine seqQ_e ?_)
      | (refine blkQ_n ?_)
      | (refine blkQ_r ?_)
      | (refine blkQ_e ?_)
      | (refine blkQ_o rfl ?_)
      | (refine vl_gs rfl (fun hb => ?_) (fun hb => ?_))
      | (refine vl_ps rfl (fun hb => ?_) (fun hb => ?_)))
    refine VC.cond _ rfl (fun h => ?_) (fun h => ?_)
    · repeat' (first
        | (refine vl_add rfl rfl (by omega) ?_)
        | (refine vl_sub rfl rfl (by omega) ?_)
        | (refine vl_mul rfl rfl (by omega) ?_)
        | (refine vl_pure rfl ?_)
        | (refine vl_gy rfl rfl ?_)
        | (refine vl_gn rfl rfl ?_)
        | (refine vl_gu rfl ?_)
        | (refine vl_nil ?_)
        | (refine VC.seq ?_)
        | (refine VC.regV ?_)
        | (refine vl_idx rfl rfl (by omega) ?_)
        | (refine vl_alloc ?_)
        | (refine vl_stw rfl rfl rfl rfl (by first | rfl | assumption) (Nat.le_of_ble_eq_true rfl) ?_)
        | (refine sk_zero ?_)
        | (refine sk_succ ?_)
        | (refine wk_nil ?_)
        | (refine wk_cons ?_)
        | (refine vl_box rfl rfl ?_)
        | (refine vl_bsl rfl ?_)
        | (refine VC.dregV ?_)
        | (refine VC.block ?_)
        | (refine VC.ret ?_)
        | (refine VC.exit ?_)
        | (refine VC.skip ?_)
        | (refine seqQ_n ?_)
        | (refine seqQ_r ?_)
        | (refine seqQ_e ?_)
        | (refine blkQ_n ?_)
        | (refine blkQ_r ?_)
        | (refine blkQ_e ?_)
        | (refine blkQ_o rfl ?_)
        | (refine vl_gs rfl (fun hb => ?_) (fun hb => ?_))
        | (refine vl_ps rfl (fun hb => ?_) (fun hb => ?_))
        | (refine VC.cond _ rfl (fun hb => ?_) (fun hb => ?_)))
      refine fnQ_r rfl (Mem.le_refl _) (q_end ?_)
      have : xs ≠ ys := fun e => by subst e; rw [gx] at gy; cases gy; simp at h
      simp [this]
    · have hxy : x = y := by simpa using h
      repeat' (first
        | (refine vl_add rfl rfl (by omega) ?_)
        | (refine vl_sub rfl rfl (by omega) ?_)
        | (refine vl_mul rfl rfl (by omega) ?_)
        | (refine vl_pure rfl ?_)
        | (refine vl_gy rfl rfl ?_)
        | (refine vl_gn rfl rfl ?_)
        | (refine vl_gu rfl ?_)
        | (refine vl_nil ?_)
        | (refine VC.seq ?_)
        | (refine VC.regV ?_)
        | (refine vl_idx rfl rfl (by omega) ?_)
        | (refine vl_alloc ?_)
        | (refine vl_stw rfl rfl rfl rfl (by first | rfl | assumption) (Nat.le_of_ble_eq_true rfl) ?_)
        | (refine sk_zero ?_)
        | (refine sk_succ ?_)
        | (refine wk_nil ?_)
        | (refine wk_cons ?_)
        | (refine vl_box rfl rfl ?_)
        | (refine vl_bsl rfl ?_)
        | (refine VC.dregV ?_)
        | (refine VC.block ?_)
        | (refine VC.ret ?_)
        | (refine VC.exit ?_)
        | (refine VC.skip ?_)
        | (refine seqQ_n ?_)
        | (refine seqQ_r ?_)
        | (refine seqQ_e ?_)
        | (refine blkQ_n ?_)
        | (refine blkQ_r ?_)
        | (refine blkQ_e ?_)
        | (refine blkQ_o rfl ?_)
        | (refine vl_gs rfl (fun hb => ?_) (fun hb => ?_))
        | (refine vl_ps rfl (fun hb => ?_) (fun hb => ?_))
        | (refine VC.cond _ rfl (fun hb => ?_) (fun hb => ?_)))
      refine ⟨_, i + 1, _, ?_, ⟨rfl, rfl, rfl, trivial⟩, Mem.le_refl _, rfl, hi, rfl, ?_⟩
      · omega
      · rw [List.take_add_one, List.take_add_one, hpre, gx, gy, hxy]
  · have hi : ¬ i < xs.length := by simpa using h
    repeat' (first
      | (refine vl_add rfl rfl (by omega) ?_)
      | (refine vl_sub rfl rfl (by omega) ?_)
      | (refine vl_mul rfl rfl (by omega) ?_)
      | (refine vl_pure rfl ?_)
      | (refine vl_gy rfl rfl ?_)
      | (refine vl_gn rfl rfl ?_)
      | (refine vl_gu rfl ?_)
      | (refine vl_nil ?_)
      | (refine VC.seq ?_)
      | (refine VC.regV ?_)
      | (refine vl_idx rfl rfl (by omega) ?_)
      | (refine vl_alloc ?_)
      | (refine vl_stw rfl rfl rfl rfl (by first | rfl | assumption) (Nat.le_of_ble_eq_true rfl) ?_)
      | (refine sk_zero ?_)
      | (refine sk_succ ?_)
      | (refine wk_nil ?_)
      | (refine wk_cons ?_)
      | (refine vl_box rfl rfl ?_)
      | (refine vl_bsl rfl ?_)
      | (refine VC.dregV ?_)
      | (refine VC.block ?_)
      | (refine VC.ret ?_)
      | (refine VC.exit ?_)
      | (refine VC.skip ?_)
      | (refine seqQ_n ?_)
      | (refine seqQ_r ?_)
      | (refine seqQ_e ?_)
      | (refine blkQ_n ?_)
      | (refine blkQ_r ?_)
      | (refine blkQ_e ?_)
      | (refine blkQ_o rfl ?_)
      | (refine vl_gs rfl (fun hb => ?_) (fun hb => ?_))
      | (refine vl_ps rfl (fun hb => ?_) (fun hb => ?_))
      | (refine VC.cond _ rfl (fun hb => ?_) (fun hb => ?_)))
    refine fnQ_r rfl (Mem.le_refl _) (q_end ?_)
    have hxy : xs = ys := by
      have e : i = xs.length := by omega
      subst e
      rw [List.take_of_length_le (by simp), List.take_of_length_le (by simp [hl])] at hpre
      exact hpre
    simp [hxy]

theorem eqPairS_q {M : Mem} {va vb : Value} {xs ys : List Pair} (ha : Sl M 6 pv va xs) (hb : Sl M 6 pv vb ys) : Qt Try.prog 163 [va, vb] M (.bool (decide (xs = ys))) := by
  obtain ⟨aa, ca, ea⟩ := ha.len
  obtain ⟨ab, cb, eb⟩ := hb.len
  refine fn163 (by simp) ?_
  subst ea; subst eb
  repeat' (first
    | (refine vl_add rfl rfl (by omega) ?_)
    | (refine vl_sub rfl rfl (by omega) ?_)
    | (refine vl_mul rfl rfl (by omega) ?_)
    | (refine vl_pure rfl ?_)
    | (refine vl_gy rfl rfl ?_)
    | (refine vl_gn rfl rfl ?_)
    | (refine vl_gu rfl ?_)
    | (refine vl_nil ?_)
    | (refine VC.seq ?_)
    | (refine VC.regV ?_)
    | (refine vl_idx rfl rfl (by omega) ?_)
    | (refine vl_alloc ?_)
    | (refine vl_stw rfl rfl rfl rfl (by first | rfl | assumption) (Nat.le_of_ble_eq_true rfl) ?_)
    | (refine sk_zero ?_)
    | (refine sk_succ ?_)
    | (refine wk_nil ?_)
    | (refine wk_cons ?_)
    | (refine vl_box rfl rfl ?_)
    | (refine vl_bsl rfl ?_)
    | (refine VC.dregV ?_)
    | (refine VC.block ?_)
    | (refine VC.ret ?_)
    | (refine VC.exit ?_)
    | (refine VC.skip ?_)
    | (refine seqQ_n ?_)
    | (refine seqQ_r ?_)
    | (refine seqQ_e ?_)
    | (refine blkQ_n ?_)
    | (refine blkQ_r ?_)
    | (refine blkQ_e ?_)
    | (refine blkQ_o rfl ?_)
    | (refine vl_gs rfl (fun hb => ?_) (fun hb => ?_))
    | (refine vl_ps rfl (fun hb => ?_) (fun hb => ?_)))
  refine VC.cond _ rfl (fun h => ?_) (fun h => ?_)
  · repeat' (first
      | (refine vl_add rfl rfl (by omega) ?_)
      | (refine vl_sub rfl rfl (by omega) ?_)
      | (refine vl_mul rfl rfl (by omega) ?_)
      | (refine vl_pure rfl ?_)
      | (refine vl_gy rfl rfl ?_)
      | (refine vl_gn rfl rfl ?_)
      | (refine vl_gu rfl ?_)
      | (refine vl_nil ?_)
      | (refine VC.seq ?_)
      | (refine VC.regV ?_)
      | (refine vl_idx rfl rfl (by omega) ?_)
      | (refine vl_alloc ?_)
      | (refine vl_stw rfl rfl rfl rfl (by first | rfl | assumption) (Nat.le_of_ble_eq_true rfl) ?_)
      | (refine sk_zero ?_)
      | (refine sk_succ ?_)
      | (refine wk_nil ?_)
      | (refine wk_cons ?_)
      | (refine vl_box rfl rfl ?_)
      | (refine vl_bsl rfl ?_)
      | (refine VC.dregV ?_)
      | (refine VC.block ?_)
      | (refine VC.ret ?_)
      | (refine VC.exit ?_)
      | (refine VC.skip ?_)
      | (refine seqQ_n ?_)
      | (refine seqQ_r ?_)
      | (refine seqQ_e ?_)
      | (refine blkQ_n ?_)
      | (refine blkQ_r ?_)
      | (refine blkQ_e ?_)
      | (refine blkQ_o rfl ?_)
      | (refine vl_gs rfl (fun hb => ?_) (fun hb => ?_))
      | (refine vl_ps rfl (fun hb => ?_) (fun hb => ?_))
      | (refine VC.cond _ rfl (fun hb => ?_) (fun hb => ?_)))
    refine fnQ_r rfl (Mem.le_refl _) (q_end ?_)
    have : xs ≠ ys := fun e => by have e2 := congrArg List.length e; first | (simp only [List.length_map] at e2; simp [e2] at h) | (simp [e2] at h)
    simp [this]
  have hbd := ha.bound
  have hl : xs.length = ys.length := Int.ofNat_inj.1 (by simpa using h)
  repeat' (first
    | (refine vl_add rfl rfl (by omega) ?_)
    | (refine vl_sub rfl rfl (by omega) ?_)
    | (refine vl_mul rfl rfl (by omega) ?_)
    | (refine vl_pure rfl ?_)
    | (refine vl_gy rfl rfl ?_)
    | (refine vl_gn rfl rfl ?_)
    | (refine vl_gu rfl ?_)
    | (refine vl_nil ?_)
    | (refine VC.seq ?_)
    | (refine VC.regV ?_)
    | (refine vl_idx rfl rfl (by omega) ?_)
    | (refine vl_alloc ?_)
    | (refine vl_stw rfl rfl rfl rfl (by first | rfl | assumption) (Nat.le_of_ble_eq_true rfl) ?_)
    | (refine sk_zero ?_)
    | (refine sk_succ ?_)
    | (refine wk_nil ?_)
    | (refine wk_cons ?_)
    | (refine vl_box rfl rfl ?_)
    | (refine vl_bsl rfl ?_)
    | (refine VC.dregV ?_)
    | (refine VC.block ?_)
    | (refine VC.ret ?_)
    | (refine VC.exit ?_)
    | (refine VC.skip ?_)
    | (refine seqQ_n ?_)
    | (refine seqQ_r ?_)
    | (refine seqQ_e ?_)
    | (refine blkQ_n ?_)
    | (refine blkQ_r ?_)
    | (refine blkQ_e ?_)
    | (refine blkQ_o rfl ?_)
    | (refine vl_gs rfl (fun hb => ?_) (fun hb => ?_))
    | (refine vl_ps rfl (fun hb => ?_) (fun hb => ?_)))
  refine VC.loop (α := Nat) (fun i => [(0, .v (.slice aa xs.length ca)), (1, .v (.slice ab ys.length cb)), (5, .v (.int .i64 i))]) (fun k i M' => k = xs.length - i ∧ i ≤ xs.length ∧ M' = M ∧ xs.take i = ys.take i)
    ⟨_, 0, M, ⟨rfl, rfl, rfl, trivial⟩, Mem.le_refl _, rfl, Nat.zero_le _, rfl, by simp⟩ ?_
  rintro k i M' ⟨rfl, hi, rfl, hpre⟩
  repeat' (first
    | (refine vl_add rfl rfl (by omega) ?_)
    | (refine vl_sub rfl rfl (by omega) ?_)
    | (refine vl_mul rfl rfl (by omega) ?_)
    | (refine vl_pure rfl ?_)
    | (refine vl_gy rfl rfl ?_)
    | (refine vl_gn rfl rfl ?_)
    | (refine vl_gu rfl ?_)
    | (refine vl_nil ?_)
    | (refine VC.seq ?_)
    | (refine VC.regV ?_)
    | (refine vl_idx rfl rfl (by omega) ?_)
    | (refine vl_alloc ?_)
    | (refine vl_stw rfl rfl rfl rfl (by first | rfl | assumption) (Nat.le_of_ble_eq_true rfl) ?_)
    | (refine sk_zero ?_)
    | (refine sk_succ ?_)
    | (refine wk_nil ?_)
    | (refine wk_cons ?_)
    | (refine vl_box rfl rfl ?_)
    | (refine vl_bsl rfl ?_)
    | (refine VC.dregV ?_)
    | (refine VC.block ?_)
    | (refine VC.ret ?_)
    | (refine VC.exit ?_)
    | (refine VC.skip ?_)
    | (refine seqQ_n ?_)
    | (refine seqQ_r ?_)
    | (refine seqQ_e ?_)
    | (refine blkQ_n ?_)
    | (refine blkQ_r ?_)
    | (refine blkQ_e ?_)
    | (refine blkQ_o rfl ?_)
    | (refine vl_gs rfl (fun hb => ?_) (fun hb => ?_))
    | (refine vl_ps rfl (fun hb => ?_) (fun hb => ?_)))
  refine VC.cond _ rfl (fun h => ?_) (fun h => ?_)
  · have hi : i < xs.length := by simpa using h
    obtain ⟨x, gx⟩ : ∃ x, xs[i]? = some x := ⟨_, List.getElem?_eq_getElem hi⟩
    obtain ⟨y, gy⟩ : ∃ y, ys[i]? = some y := ⟨_, List.getElem?_eq_getElem (hl ▸ hi)⟩
    obtain ⟨b1, o1, rfl, h1⟩ := ha.at2 (fun _ => rfl) gx
    obtain ⟨b2, o2, rfl, h2⟩ := hb.at2 (fun _ => rfl) gy
    repeat' (first
      | (refine vl_add rfl rfl (by omega) ?_)
      | (refine vl_sub rfl rfl (by omega) ?_)
      | (refine vl_mul rfl rfl (by omega) ?_)
      | (refine vl_pure rfl ?_)
      | (refine vl_gy rfl rfl ?_)
      | (refine vl_gn rfl rfl ?_)
      | (refine vl_gu rfl ?_)
      | (refine vl_ld rfl (by first | exact h1 | exact h2) ?_)
      | (refine vl_nil ?_)
      | (refine VC.seq ?_)
      | (refine VC.regV ?_)
      | (refine vl_idx rfl rfl (by omega) ?_)
      | (refine vl_lds rfl (by first | exact h1 | exact h2) ?_)
      | (refine vl_alloc ?_)
      | (refine vl_stw rfl rfl rfl rfl (by first | rfl | assumption) (Nat.le_of_ble_eq_true rfl) ?_)
      | (refine sk_zero ?_)
      | (refine sk_succ ?_)
      | (refine wk_nil ?_)
      | (refine wk_cons ?_)
      | (refine vl_box rfl rfl ?_)
      | (refine vl_bsl rfl ?_)
      | (refine vl_q rfl (eqPair_q) ?_)
      | (refine vl_cq rfl (eqPair_q) ?_)
      | (refine VC.dregV ?_)
      | (refine VC.block ?_)
      | (refine VC.ret ?_)
      | (refine VC.exit ?_)
      | (refine VC.skip ?_)
      | (refine seqQ_n ?_)
      | (refine seqQ_r ?_)
      | (refine seqQ_e ?_)
      | (refine blkQ_n ?_)
      | (refine blkQ_r ?_)
      | (refine blkQ_e ?_)
      | (refine blkQ_o rfl ?_)
      | (refine vl_gs rfl (fun hb => ?_) (fun hb => ?_))
      | (refine vl_ps rfl (fun hb => ?_) (fun hb => ?_)))
    refine VC.cond _ rfl (fun h => ?_) (fun h => ?_)
    · repeat' (first
        | (refine vl_add rfl rfl (by omega) ?_)
        | (refine vl_sub rfl rfl (by omega) ?_)
        | (refine vl_mul rfl rfl (by omega) ?_)
        | (refine vl_pure rfl ?_)
        | (refine vl_gy rfl rfl ?_)
        | (refine vl_gn rfl rfl ?_)
        | (refine vl_gu rfl ?_)
        | (refine vl_nil ?_)
        | (refine VC.seq ?_)
        | (refine VC.regV ?_)
        | (refine vl_idx rfl rfl (by omega) ?_)
        | (refine vl_alloc ?_)
        | (refine vl_stw rfl rfl rfl rfl (by first | rfl | assumption) (Nat.le_of_ble_eq_true rfl) ?_)
        | (refine sk_zero ?_)
        | (refine sk_succ ?_)
        | (refine wk_nil ?_)
        | (refine wk_cons ?_)
        | (refine vl_box rfl rfl ?_)
        | (refine vl_bsl rfl ?_)
        | (refine VC.dregV ?_)
        | (refine VC.block ?_)
        | (refine VC.ret ?_)
        | (refine VC.exit ?_)
        | (refine VC.skip ?_)
        | (refine seqQ_n ?_)
        | (refine seqQ_r ?_)
        | (refine seqQ_e ?_)
        | (refine blkQ_n ?_)
        | (refine blkQ_r ?_)
        | (refine blkQ_e ?_)
        | (refine blkQ_o rfl ?_)
        | (refine vl_gs rfl (fun hb => ?_) (fun hb => ?_))
        | (refine vl_ps rfl (fun hb => ?_) (fun hb => ?_))
        | (refine VC.cond _ rfl (fun hb => ?_) (fun hb => ?_)))
      refine fnQ_r rfl (Mem.le_refl _) (q_end ?_)
      have : xs ≠ ys := fun e => by subst e; rw [gx] at gy; cases gy; simp at h
      simp [this]
    · have hxy : x = y := by simpa using h
      repeat' (first
        | (refine vl_add rfl rfl (by omega) ?_)
        | (refine vl_sub rfl rfl (by omega) ?_)
        | (refine vl_mul rfl rfl (by omega) ?_)
        | (refine vl_pure rfl ?_)
        | (refine vl_gy rfl rfl ?_)
        | (refine vl_gn rfl rfl ?_)
        | (refine vl_gu rfl ?_)
        | (refine vl_nil ?_)
        | (refine VC.seq ?_)
        | (refine VC.regV ?_)
        | (refine vl_idx rfl rfl (by omega) ?_)
        | (refine vl_alloc ?_)
        | (refine vl_stw rfl rfl rfl rfl (by first | rfl | assumption) (Nat.le_of_ble_eq_true rfl) ?_)
        | (refine sk_zero ?_)
        | (refine sk_succ ?_)
        | (refine wk_nil ?_)
        | (refine wk_cons ?_)
        | (refine vl_box rfl rfl ?_)
        | (refine vl_bsl rfl ?_)
        | (refine VC.dregV ?_)
        | (refine VC.block ?_)
        | (refine VC.ret ?_)
        | (refine VC.exit ?_)
        | (refine VC.skip ?_)
        | (refine seqQ_n ?_)
        | (refine seqQ_r ?_)
        | (refine seqQ_e ?_)
        | (refine blkQ_n ?_)
        | (refine blkQ_r ?_)
        | (refine blkQ_e ?_)
        | (refine blkQ_o rfl ?_)
        | (refine vl_gs rfl (fun hb => ?_) (fun hb => ?_))
        | (refine vl_ps rfl (fun hb => ?_) (fun hb => ?_))
        | (refine VC.cond _ rfl (fun hb => ?_) (fun hb => ?_)))
      refine ⟨_, i + 1, _, ?_, ⟨rfl, rfl, rfl, trivial⟩, Mem.le_refl _, rfl, hi, rfl, ?_⟩
      · omega
      · rw [List.take_add_one, List.take_add_one, hpre, gx, gy, hxy]
  · have hi : ¬ i < xs.length := by simpa using h
    repeat' (first
      | (refine vl_add rfl rfl (by omega) ?_)
      | (refine vl_sub rfl rfl (by omega) ?_)
      | (refine vl_mul rfl rfl (by omega) ?_)
      | (refine vl_pure rfl ?_)
      | (refine vl_gy rfl rfl ?_)
      | (refine vl_gn rfl rfl ?_)
      | (refine vl_gu rfl ?_)
      | (refine vl_nil ?_)
      | (refine VC.seq ?_)
      | (refine VC.regV ?_)
      | (refine vl_idx rfl rfl (by omega) ?_)
      | (refine vl_alloc ?_)
      | (refine vl_stw rfl rfl rfl rfl (by first | rfl | assumption) (Nat.le_of_ble_eq_true rfl) ?_)
      | (refine sk_zero ?_)
      | (refine sk_succ ?_)
      | (refine wk_nil ?_)
      | (refine wk_cons ?_)
      | (refine vl_box rfl rfl ?_)
      | (refine vl_bsl rfl ?_)
      | (refine VC.dregV ?_)
      | (refine VC.block ?_)
      | (refine VC.ret ?_)
      | (refine VC.exit ?_)
      | (refine VC.skip ?_)
      | (refine seqQ_n ?_)
      | (refine seqQ_r ?_)
      | (refine seqQ_e ?_)
      | (refine blkQ_n ?_)
      | (refine blkQ_r ?_)
      | (refine blkQ_e ?_)
      | (refine blkQ_o rfl ?_)
      | (refine vl_gs rfl (fun hb => ?_) (fun hb => ?_))
      | (refine vl_ps rfl (fun hb => ?_) (fun hb => ?_))
      | (refine VC.cond _ rfl (fun hb => ?_) (fun hb => ?_)))
    refine fnQ_r rfl (Mem.le_refl _) (q_end ?_)
    have hxy : xs = ys := by
      have e : i = xs.length := by omega
      subst e
      rw [List.take_of_length_le (by simp), List.take_of_length_le (by simp [hl])] at hpre
      exact hpre
    simp [hxy]

theorem eqIntS_q {M : Mem} {va vb : Value} {xs ys : List Int} (ha : Sl M 1 iv va xs) (hb : Sl M 1 iv vb ys) : Qt Try.prog 74 [va, vb] M (.bool (decide (xs = ys))) := by
  obtain ⟨aa, ca, ea⟩ := ha.len
  obtain ⟨ab, cb, eb⟩ := hb.len
  refine fn74 (by simp) ?_
  subst ea; subst eb
  repeat' (first
    | (refine vl_add rfl rfl (by omega) ?_)
    | (refine vl_sub rfl rfl (by omega) ?_)
    | (refine vl_mul rfl rfl (by omega) ?_)
    | (refine vl_pure rfl ?_)
    | (refine vl_gy rfl rfl ?_)
    | (refine vl_gn rfl rfl ?_)
    | (refine vl_gu rfl ?_)
    | (refine vl_nil ?_)
    | (refine VC.seq ?_)
    | (refine VC.regV ?_)
    | (refine vl_idx rfl rfl (by omega) ?_)
    | (refine vl_alloc ?_)
    | (refine vl_stw rfl rfl rfl rfl (by first | rfl | assumption) (Nat.le_of_ble_eq_true rfl) ?_)
    | (refine sk_zero ?_)
    | (refine sk_succ ?_)
    | (refine wk_nil ?_)
    | (refine wk_cons ?_)
    | (refine vl_box rfl rfl ?_)
    | (refine vl_bsl rfl ?_)
    | (refine VC.dregV ?_)
    | (refine VC.block ?_)
    | (refine VC.ret ?_)
    | (refine VC.exit ?_)
    | (refine VC.skip ?_)
    | (refine seqQ_n ?_)
    | (refine seqQ_r ?_)
    | (refine seqQ_e ?_)
    | (refine blkQ_n ?_)
    | (refine blkQ_r ?_)
    | (refine blkQ_e ?_)
    | (refine blkQ_o rfl ?_)
    | (refine vl_gs rfl (fun hb => ?_) (fun hb => ?_))
    | (refine vl_ps rfl (fun hb => ?_) (fun hb => ?_)))
  refine VC.cond _ rfl (fun h => ?_) (fun h => ?_)
  · repeat' (first
      | (refine vl_add rfl rfl (by omega) ?_)
      | (refine vl_sub rfl rfl (by omega) ?_)
      | (refine vl_mul rfl rfl (by omega) ?_)
      | (refine vl_pure rfl ?_)
      | (refine vl_gy rfl rfl ?_)
      | (refine vl_gn rfl rfl ?_)
      | (refine vl_gu rfl ?_)
      | (refine vl_nil ?_)
      | (refine VC.seq ?_)
      | (refine VC.regV ?_)
      | (refine vl_idx rfl rfl (by omega) ?_)
      | (refine vl_alloc ?_)
      | (refine vl_stw rfl rfl rfl rfl (by first | rfl | assumption) (Nat.le_of_ble_eq_true rfl) ?_)
      | (refine sk_zero ?_)
      | (refine sk_succ ?_)
      | (refine wk_nil ?_)
      | (refine wk_cons ?_)
      | (refine vl_box rfl rfl ?_)
      | (refine vl_bsl rfl ?_)
      | (refine VC.dregV ?_)
      | (refine VC.block ?_)
      | (refine VC.ret ?_)
      | (refine VC.exit ?_)
      | (refine VC.skip ?_)
      | (refine seqQ_n ?_)
      | (refine seqQ_r ?_)
      | (refine seqQ_e ?_)
      | (refine blkQ_n ?_)
      | (refine blkQ_r ?_)
      | (refine blkQ_e ?_)
      | (refine blkQ_o rfl ?_)
      | (refine vl_gs rfl (fun hb => ?_) (fun hb => ?_))
      | (refine vl_ps rfl (fun hb => ?_) (fun hb => ?_))
      | (refine VC.cond _ rfl (fun hb => ?_) (fun hb => ?_)))
    refine fnQ_r rfl (Mem.le_refl _) (q_end ?_)
    have : xs ≠ ys := fun e => by have e2 := congrArg List.length e; first | (simp only [List.length_map] at e2; simp [e2] at h) | (simp [e2] at h)
    simp [this]
  have hbd := ha.bound
  have hl : xs.length = ys.length := Int.ofNat_inj.1 (by simpa using h)
  repeat' (first
    | (refine vl_add rfl rfl (by omega) ?_)
    | (refine vl_sub rfl rfl (by omega) ?_)
    | (refine vl_mul rfl rfl (by omega) ?_)
    | (refine vl_pure rfl ?_)
    | (refine vl_gy rfl rfl ?_)
    | (refine vl_gn rfl rfl ?_)
    | (refine vl_gu rfl ?_)
    | (refine vl_nil ?_)
    | (refine VC.seq ?_)
    | (refine VC.regV ?_)
    | (refine vl_idx rfl rfl (by omega) ?_)
    | (refine vl_alloc ?_)
    | (refine vl_stw rfl rfl rfl rfl (by first | rfl | assumption) (Nat.le_of_ble_eq_true rfl) ?_)
    | (refine sk_zero ?_)
    | (refine sk_succ ?_)
    | (refine wk_nil ?_)
    | (refine wk_cons ?_)
    | (refine vl_box rfl rfl ?_)
    | (refine vl_bsl rfl ?_)
    | (refine VC.dregV ?_)
    | (refine VC.block ?_)
    | (refine VC.ret ?_)
    | (refine VC.exit ?_)
    | (refine VC.skip ?_)
    | (refine seqQ_n ?_)
    | (refine seqQ_r ?_)
    | (refine seqQ_e ?_)
    | (refine blkQ_n ?_)
    | (refine blkQ_r ?_)
    | (refine blkQ_e ?_)
    | (refine blkQ_o rfl ?_)
    | (refine vl_gs rfl (fun hb => ?_) (fun hb => ?_))
    | (refine vl_ps rfl (fun hb => ?_) (fun hb => ?_)))
  refine VC.loop (α := Nat) (fun i => [(0, .v (.slice aa xs.length ca)), (1, .v (.slice ab ys.length cb)), (5, .v (.int .i64 i))]) (fun k i M' => k = xs.length - i ∧ i ≤ xs.length ∧ M' = M ∧ xs.take i = ys.take i)
    ⟨_, 0, M, ⟨rfl, rfl, rfl, trivial⟩, Mem.le_refl _, rfl, Nat.zero_le _, rfl, by simp⟩ ?_
  rintro k i M' ⟨rfl, hi, rfl, hpre⟩
  repeat' (first
    | (refine vl_add rfl rfl (by omega) ?_)
    | (refine vl_sub rfl rfl (by omega) ?_)
    | (refine vl_mul rfl rfl (by omega) ?_)
    | (refine vl_pure rfl ?_)
    | (refine vl_gy rfl rfl ?_)
    | (refine vl_gn rfl rfl ?_)
    | (refine vl_gu rfl ?_)
    | (refine vl_nil ?_)
    | (refine VC.seq ?_)
    | (refine VC.regV ?_)
    | (refine vl_idx rfl rfl (by omega) ?_)
    | (refine vl_alloc ?_)
    | (refine vl_stw rfl rfl rfl rfl (by first | rfl | assumption) (Nat.le_of_ble_eq_true rfl) ?_)
    | (refine sk_zero ?_)
    | (refine sk_succ ?_)
    | (refine wk_nil ?_)
    | (refine wk_cons ?_)
    | (refine vl_box rfl rfl ?_)
    | (refine vl_bsl rfl ?_)
    | (refine VC.dregV ?_)
    | (refine VC.block ?_)
    | (refine VC.ret ?_)
    | (refine VC.exit ?_)
    | (refine VC.skip ?_)
    | (refine seqQ_n ?_)
    | (refine seqQ_r ?_)
    | (refine seqQ_e ?_)
    | (refine blkQ_n ?_)
    | (refine blkQ_r ?_)
    | (refine blkQ_e ?_)
    | (refine blkQ_o rfl ?_)
    | (refine vl_gs rfl (fun hb => ?_) (fun hb => ?_))
    | (refine vl_ps rfl (fun hb => ?_) (fun hb => ?_)))
  refine VC.cond _ rfl (fun h => ?_) (fun h => ?_)
  · have hi : i < xs.length := by simpa using h
    obtain ⟨x, gx⟩ : ∃ x, xs[i]? = some x := ⟨_, List.getElem?_eq_getElem hi⟩
    obtain ⟨y, gy⟩ : ∃ y, ys[i]? = some y := ⟨_, List.getElem?_eq_getElem (hl ▸ hi)⟩
    obtain ⟨b1, o1, rfl, h1⟩ := ha.at2 (fun _ => rfl) gx
    obtain ⟨b2, o2, rfl, h2⟩ := hb.at2 (fun _ => rfl) gy
    repeat' (first
      | (refine vl_add rfl rfl (by omega) ?_)
      | (refine vl_sub rfl rfl (by omega) ?_)
      | (refine vl_mul rfl rfl (by omega) ?_)
      | (refine vl_pure rfl ?_)
      | (refine vl_gy rfl rfl ?_)
      | (refine vl_gn rfl rfl ?_)
      | (refine vl_gu rfl ?_)
      | (refine vl_ld rfl (by first | exact cells_cell h1 (j := 0) rfl | exact cells_cell h2 (j := 0) rfl) ?_)
      | (refine vl_nil ?_)
      | (refine VC.seq ?_)
      | (refine VC.regV ?_)
      | (refine vl_idx rfl rfl (by omega) ?_)
      | (refine vl_lds rfl (by first | exact cells_cell h1 (j := 0) rfl | exact cells_cell h2 (j := 0) rfl) ?_)
      | (refine vl_alloc ?_)
      | (refine vl_stw rfl rfl rfl rfl (by first | rfl | assumption) (Nat.le_of_ble_eq_true rfl) ?_)
      | (refine sk_zero ?_)
      | (refine sk_succ ?_)
      | (refine wk_nil ?_)
      | (refine wk_cons ?_)
      | (refine vl_box rfl rfl ?_)
      | (refine vl_bsl rfl ?_)
      | (refine VC.dregV ?_)
      | (refine VC.block ?_)
      | (refine VC.ret ?_)
      | (refine VC.exit ?_)
      | (refine VC.skip ?_)
      | (refine seqQ_n ?_)
      | (refine seqQ_r ?_)
      | (refine seqQ_e ?_)
      | (refine blkQ_n ?_)
      | (refine blkQ_r ?_)
      | (refine blkQ_e ?_)
      | (refine blkQ_o rfl ?_)
      | (refine vl_gs rfl (fun hb => ?_) (fun hb => ?_))
      | (refine vl_ps rfl (fun hb => ?_) (fun hb => ?_)))
    refine VC.cond _ rfl (fun h => ?_) (fun h => ?_)
    · repeat' (first
        | (refine vl_add rfl rfl (by omega) ?_)
        | (refine vl_sub rfl rfl (by omega) ?_)
        | (refine vl_mul rfl rfl (by omega) ?_)
        | (refine vl_pure rfl ?_)
        | (refine vl_gy rfl rfl ?_)
        | (refine vl_gn rfl rfl ?_)
        | (refine vl_gu rfl ?_)
        | (refine vl_nil ?_)
        | (refine VC.seq ?_)
        | (refine VC.regV ?_)
        | (refine vl_idx rfl rfl (by omega) ?_)
        | (refine vl_alloc ?_)
        | (refine vl_stw rfl rfl rfl rfl (by first | rfl | assumption) (Nat.le_of_ble_eq_true rfl) ?_)
        | (refine sk_zero ?_)
        | (refine sk_succ ?_)
        | (refine wk_nil ?_)
        | (refine wk_cons ?_)
        | (refine vl_box rfl rfl ?_)
        | (refine vl_bsl rfl ?_)
        | (refine VC.dregV ?_)
        | (refine VC.block ?_)
        | (refine VC.ret ?_)
        | (refine VC.exit ?_)
        | (refine VC.skip ?_)
        | (refine seqQ_n ?_)
        | (refine seqQ_r ?_)
        | (refine seqQ_e ?_)
        | (refine blkQ_n ?_)
        | (refine blkQ_r ?_)
        | (refine blkQ_e ?_)
        | (refine blkQ_o rfl ?_)
        | (refine vl_gs rfl (fun hb => ?_) (fun hb => ?_))
        | (refine vl_ps rfl (fun hb => ?_) (fun hb => ?_))
        | (refine VC.cond _ rfl (fun hb => ?_) (fun hb => ?_)))
      refine fnQ_r rfl (Mem.le_refl _) (q_end ?_)
      have : xs ≠ ys := fun e => by subst e; rw [gx] at gy; cases gy; simp at h
      simp [this]
    · have hxy : x = y := by simpa using h
      repeat' (first
        | (refine vl_add rfl rfl (by omega) ?_)
        | (refine vl_sub rfl rfl (by omega) ?_)
        | (refine vl_mul rfl rfl (by omega) ?_)
        | (refine vl_pure rfl ?_)
        | (refine vl_gy rfl rfl ?_)
        | (refine vl_gn rfl rfl ?_)
        | (refine vl_gu rfl ?_)
        | (refine vl_nil ?_)
        | (refine VC.seq ?_)
        | (refine VC.regV ?_)
        | (refine vl_idx rfl rfl (by omega) ?_)
        | (refine vl_alloc ?_)
        | (refine vl_stw rfl rfl rfl rfl (by first | rfl | assumption) (Nat.le_of_ble_eq_true rfl) ?_)
        | (refine sk_zero ?_)
        | (refine sk_succ ?_)
        | (refine wk_nil ?_)
        | (refine wk_cons ?_)
        | (refine vl_box rfl rfl ?_)
        | (refine vl_bsl rfl ?_)
        | (refine VC.dregV ?_)
        | (refine VC.block ?_)
        | (refine VC.ret ?_)
        | (refine VC.exit ?_)
        | (refine VC.skip ?_)
        | (refine seqQ_n ?_)
        | (refine seqQ_r ?_)
        | (refine seqQ_e ?_)
        | (refine blkQ_n ?_)
        | (refine blkQ_r ?_)
        | (refine blkQ_e ?_)
        | (refine blkQ_o rfl ?_)
        | (refine vl_gs rfl (fun hb => ?_) (fun hb => ?_))
        | (refine vl_ps rfl (fun hb => ?_) (fun hb => ?_))
        | (refine VC.cond _ rfl (fun hb => ?_) (fun hb => ?_)))
      refine ⟨_, i + 1, _, ?_, ⟨rfl, rfl, rfl, trivial⟩, Mem.le_refl _, rfl, hi, rfl, ?_⟩
      · omega
      · rw [List.take_add_one, List.take_add_one, hpre, gx, gy, hxy]
  · have hi : ¬ i < xs.length := by simpa using h
    repeat' (first
      | (refine vl_add rfl rfl (by omega) ?_)
      | (refine vl_sub rfl rfl (by omega) ?_)
      | (refine vl_mul rfl rfl (by omega) ?_)
      | (refine vl_pure rfl ?_)
      | (refine vl_gy rfl rfl ?_)
      | (refine vl_gn rfl rfl ?_)
      | (refine vl_gu rfl ?_)
      | (refine vl_nil ?_)
      | (refine VC.seq ?_)
      | (refine VC.regV ?_)
      | (refine vl_idx rfl rfl (by omega) ?_)
      | (refine vl_alloc ?_)
      | (refine vl_stw rfl rfl rfl rfl (by first | rfl | assumption) (Nat.le_of_ble_eq_true rfl) ?_)
      | (refine sk_zero ?_)
      | (refine sk_succ ?_)
      | (refine wk_nil ?_)
      | (refine wk_cons ?_)
      | (refine vl_box rfl rfl ?_)
      | (refine vl_bsl rfl ?_)
      | (refine VC.dregV ?_)
      | (refine VC.block ?_)
      | (refine VC.ret ?_)
      | (refine VC.exit ?_)
      | (refine VC.skip ?_)
      | (refine seqQ_n ?_)
      | (refine seqQ_r ?_)
      | (refine seqQ_e ?_)
      | (refine blkQ_n ?_)
      | (refine blkQ_r ?_)
      | (refine blkQ_e ?_)
      | (refine blkQ_o rfl ?_)
      | (refine vl_gs rfl (fun hb => ?_) (fun hb => ?_))
      | (refine vl_ps rfl (fun hb => ?_) (fun hb => ?_))
      | (refine VC.cond _ rfl (fun hb => ?_) (fun hb => ?_)))
    refine fnQ_r rfl (Mem.le_refl _) (q_end ?_)
    have hxy : xs = ys := by
      have e : i = xs.length := by omega
      subst e
      rw [List.take_of_length_le (by simp), List.take_of_length_le (by simp [hl])] at hpre
      exact hpre
    simp [hxy]

theorem eqBoolS_q {M : Mem} {va vb : Value} {xs ys : List Bool} (ha : Sl M 1 bv va xs) (hb : Sl M 1 bv vb ys) : Qt Try.prog 46 [va, vb] M (.bool (decide (xs = ys))) := by
  obtain ⟨aa, ca, ea⟩ := ha.len
  obtain ⟨ab, cb, eb⟩ := hb.len
  refine fn46 (by simp) ?_
  subst ea; subst eb
  repeat' (first
    | (refine vl_add rfl rfl (by omega) ?_)
    | (refine vl_sub rfl rfl (by omega) ?_)
    | (refine vl_mul rfl rfl (by omega) ?_)
    | (refine vl_pure rfl ?_)
    | (refine vl_gy rfl rfl ?_)
    | (refine vl_gn rfl rfl ?_)
    | (refine vl_gu rfl ?_)
    | (refine vl_nil ?_)
    | (refine VC.seq ?_)
    | (refine VC.regV ?_)
    | (refine vl_idx rfl rfl (by omega) ?_)
    | (refine vl_alloc ?_)
    | (refine vl_stw rfl rfl rfl rfl (by first | rfl | assumption) (Nat.le_of_ble_eq_true rfl) ?_)
    | (refine sk_zero ?_)
    | (refine sk_succ ?_)
    | (refine wk_nil ?_)
    | (refine wk_cons ?_)
    | (refine vl_box rfl rfl ?_)
    | (refine vl_bsl rfl ?_)
    | (refine VC.dregV ?_)
    | (refine VC.block ?_)
    | (refine VC.ret ?_)
    | (refine VC.exit ?_)
    | (refine VC.skip ?_)
    | (refine seqQ_n ?_)
    | (refine seqQ_r ?_)
    | (refine seqQ_e ?_)
    | (refine blkQ_n ?_)
    | (refine blkQ_r ?_)
    | (refine blkQ_e ?_)
    | (refine blkQ_o rfl ?_)
    | (refine vl_gs rfl (fun hb => ?_) (fun hb => ?_))
    | (refine vl_ps rfl (fun hb => ?_) (fun hb => ?_)))
  refine VC.cond _ rfl (fun h => ?_) (fun h => ?_)
  · repeat' (first
      | (refine vl_add rfl rfl (by omega) ?_)
      | (refine vl_sub rfl rfl (by omega) ?_)
      | (refine vl_mul rfl rfl (by omega) ?_)
      | (refine vl_pure rfl ?_)
      | (refine vl_gy rfl rfl ?_)
      | (refine vl_gn rfl rfl ?_)
      | (refine vl_gu rfl ?_)
      | (refine vl_nil ?_)
      | (refine VC.seq ?_)
      | (refine VC.regV ?_)
      | (refine vl_idx rfl rfl (by omega) ?_)
      | (refine vl_alloc ?_)
      | (refine vl_stw rfl rfl rfl rfl (by first | rfl | assumption) (Nat.le_of_ble_eq_true rfl) ?_)
      | (refine sk_zero ?_)
      | (refine sk_succ ?_)
      | (refine wk_nil ?_)
      | (refine wk_cons ?_)
      | (refine vl_box rfl rfl ?_)
      | (refine vl_bsl rfl ?_)
      | (refine VC.dregV ?_)
      | (refine VC.block ?_)
      | (refine VC.ret ?_)
      | (refine VC.exit ?_)
      | (refine VC.skip ?_)
      | (refine seqQ_n ?_)
      | (refine seqQ_r ?_)
      | (refine seqQ_e ?_)
      | (refine blkQ_n ?_)
      | (refine blkQ_r ?_)
      | (refine blkQ_e ?_)
      | (refine blkQ_o rfl ?_)
      | (refine vl_gs rfl (fun hb => ?_) (fun hb => ?_))
      | (refine vl_ps rfl (fun hb => ?_) (fun hb => ?_))
      | (refine VC.cond _ rfl (fun hb => ?_) (fun hb => ?_)))
    refine fnQ_r rfl (Mem.le_refl _) (q_end ?_)
    have : xs ≠ ys := fun e => by have e2 := congrArg List.length e; first | (simp only [List.length_map] at e2; simp [e2] at h) | (simp [e2] at h)
    simp [this]
  have hbd := ha.bound
  have hl : xs.length = ys.length := Int.ofNat_inj.1 (by simpa using h)
  repeat' (first
    | (refine vl_add rfl rfl (by omega) ?_)
    | (refine vl_sub rfl rfl (by omega) ?_)
    | (refine vl_mul rfl rfl (by omega) ?_)
    | (refine vl_pure rfl ?_)
    | (refine vl_gy rfl rfl ?_)
    | (refine vl_gn rfl rfl ?_)
    | (refine vl_gu rfl ?_)
    | (refine vl_nil ?_)
    | (refine VC.seq ?_)
    | (refine VC.regV ?_)
    | (refine vl_idx rfl rfl (by omega) ?_)
    | (refine vl_alloc ?_)
    | (refine vl_stw rfl rfl rfl rfl (by first | rfl | assumption) (Nat.le_of_ble_eq_true rfl) ?_)
    | (refine sk_zero ?_)
    | (refine sk_succ ?_)
    | (refine wk_nil ?_)
    | (refine wk_cons ?_)
    | (refine vl_box rfl rfl ?_)
    | (refine vl_bsl rfl ?_)
    | (refine VC.dregV ?_)
    | (refine VC.block ?_)
    | (refine VC.ret ?_)
    | (refine VC.exit ?_)
    | (refine VC.skip ?_)
    | (refine seqQ_n ?_)
    | (refine seqQ_r ?_)
    | (refine seqQ_e ?_)
    | (refine blkQ_n ?_)
    | (refine blkQ_r ?_)
    | (refine blkQ_e ?_)
    | (refine blkQ_o rfl ?_)
    | (refine vl_gs rfl (fun hb => ?_) (fun hb => ?_))
    | (refine vl_ps rfl (fun hb => ?_) (fun hb => ?_)))
  refine VC.loop (α := Nat) (fun i => [(0, .v (.slice aa xs.length ca)), (1, .v (.slice ab ys.length cb)), (5, .v (.int .i64 i))]) (fun k i M' => k = xs.length - i ∧ i ≤ xs.length ∧ M' = M ∧ xs.take i = ys.take i)
    ⟨_, 0, M, ⟨rfl, rfl, rfl, trivial⟩, Mem.le_refl _, rfl, Nat.zero_le _, rfl, by simp⟩ ?_
  rintro k i M' ⟨rfl, hi, rfl, hpre⟩
  repeat' (first
    | (refine vl_add rfl rfl (by omega) ?_)
    | (refine vl_sub rfl rfl (by omega) ?_)
    | (refine vl_mul rfl rfl (by omega) ?_)
    | (refine vl_pure rfl ?_)
    | (refine vl_gy rfl rfl ?_)
    | (refine vl_gn rfl rfl ?_)
    | (refine vl_gu rfl ?_)
    | (refine vl_nil ?_)
    | (refine VC.seq ?_)
    | (refine VC.regV ?_)
    | (refine vl_idx rfl rfl (by omega) ?_)
    | (refine vl_alloc ?_)
    | (refine vl_stw rfl rfl rfl rfl (by first | rfl | assumption) (Nat.le_of_ble_eq_true rfl) ?_)
    | (refine sk_zero ?_)
    | (refine sk_succ ?_)
    | (refine wk_nil ?_)
    | (refine wk_cons ?_)
    | (refine vl_box rfl rfl ?_)
    | (refine vl_bsl rfl ?_)
    | (refine VC.dregV ?_)
    | (refine VC.block ?_)
    | (refine VC.ret ?_)
    | (refine VC.exit ?_)
    | (refine VC.skip ?_)
    | (refine seqQ_n ?_)
    | (refine seqQ_r ?_)
    | (refine seqQ_e ?_)
    | (refine blkQ_n ?_)
    | (refine blkQ_r ?_)
    | (refine blkQ_e ?_)
    | (refine blkQ_o rfl ?_)
    | (refine vl_gs rfl (fun hb => ?_) (fun hb => ?_))
    | (refine vl_ps rfl (fun hb => ?_) (fun hb => ?_)))
  refine VC.cond _ rfl (fun h => ?_) (fun h => ?_)
  · have hi : i < xs.length := by simpa using h
    obtain ⟨x, gx⟩ : ∃ x, xs[i]? = some x := ⟨_, List.getElem?_eq_getElem hi⟩
    obtain ⟨y, gy⟩ : ∃ y, ys[i]? = some y := ⟨_, List.getElem?_eq_getElem (hl ▸ hi)⟩
    obtain ⟨b1, o1, rfl, h1⟩ := ha.at2 (fun _ => rfl) gx
    obtain ⟨b2, o2, rfl, h2⟩ := hb.at2 (fun _ => rfl) gy
    repeat' (first
      | (refine vl_add rfl rfl (by omega) ?_)
      | (refine vl_sub rfl rfl (by omega) ?_)
      | (refine vl_mul rfl rfl (by omega) ?_)
      | (refine vl_pure rfl ?_)
      | (refine vl_gy rfl rfl ?_)
      | (refine vl_gn rfl rfl ?_)
      | (refine vl_gu rfl ?_)
      | (refine vl_ld rfl (by first | exact cells_cell h1 (j := 0) rfl | exact cells_cell h2 (j := 0) rfl) ?_)
      | (refine vl_nil ?_)
      | (refine VC.seq ?_)
      | (refine VC.regV ?_)
      | (refine vl_idx rfl rfl (by omega) ?_)
      | (refine vl_lds rfl (by first | exact cells_cell h1 (j := 0) rfl | exact cells_cell h2 (j := 0) rfl) ?_)
      | (refine vl_alloc ?_)
      | (refine vl_stw rfl rfl rfl rfl (by first | rfl | assumption) (Nat.le_of_ble_eq_true rfl) ?_)
      | (refine sk_zero ?_)
      | (refine sk_succ ?_)
      | (refine wk_nil ?_)
      | (refine wk_cons ?_)
      | (refine vl_box rfl rfl ?_)
      | (refine vl_bsl rfl ?_)
      | (refine VC.dregV ?_)
      | (refine VC.block ?_)
      | (refine VC.ret ?_)
      | (refine VC.exit ?_)
      | (refine VC.skip ?_)
      | (refine seqQ_n ?_)
      | (refine seqQ_r ?_)
      | (refine seqQ_e ?_)
      | (refine blkQ_n ?_)
      | (refine blkQ_r ?_)
      | (refine blkQ_e ?_)
      | (refine blkQ_o rfl ?_)
      | (refine vl_gs rfl (fun hb => ?_) (fun hb => ?_))
      | (refine vl_ps rfl (fun hb => ?_) (fun hb => ?_)))
    refine VC.cond _ rfl (fun h => ?_) (fun h => ?_)
    · repeat' (first
        | (refine vl_add rfl rfl (by omega) ?_)
        | (refine vl_sub rfl rfl (by omega) ?_)
        | (refine vl_mul rfl rfl (by omega) ?_)
        | (refine vl_pure rfl ?_)
        | (refine vl_gy rfl rfl ?_)
        | (refine vl_gn rfl rfl ?_)
        | (refine vl_gu rfl ?_)
        | (refine vl_nil ?_)
        | (refine VC.seq ?_)
        | (refine VC.regV ?_)
        | (refine vl_idx rfl rfl (by omega) ?_)
        | (refine vl_alloc ?_)
        | (refine vl_stw rfl rfl rfl rfl (by first | rfl | assumption) (Nat.le_of_ble_eq_true rfl) ?_)
        | (refine sk_zero ?_)
        | (refine sk_succ ?_)
        | (refine wk_nil ?_)
        | (refine wk_cons ?_)
        | (refine vl_box rfl rfl ?_)
        | (refine vl_bsl rfl ?_)
        | (refine VC.dregV ?_)
        | (refine VC.block ?_)
        | (refine VC.ret ?_)
        | (refine VC.exit ?_)
        | (refine VC.skip ?_)
        | (refine seqQ_n ?_)
        | (refine seqQ_r ?_)
        | (refine seqQ_e ?_)
        | (refine blkQ_n ?_)
        | (refine blkQ_r ?_)
        | (refine blkQ_e ?_)
        | (refine blkQ_o rfl ?_)
        | (refine vl_gs rfl (fun hb => ?_) (fun hb => ?_))
        | (refine vl_ps rfl (fun hb => ?_) (fun hb => ?_))
        | (refine VC.cond _ rfl (fun hb => ?_) (fun hb => ?_)))
      refine fnQ_r rfl (Mem.le_refl _) (q_end ?_)
      have : xs ≠ ys := fun e => by subst e; rw [gx] at gy; cases gy; simp at h
      simp [this]
    · have hxy : x = y := by simpa using h
      repeat' (first
        | (refine vl_add rfl rfl (by omega) ?_)
        | (refine vl_sub rfl rfl (by omega) ?_)
        | (refine vl_mul rfl rfl (by omega) ?_)
        | (refine vl_pure rfl ?_)
        | (refine vl_gy rfl rfl ?_)
        | (refine vl_gn rfl rfl ?_)
        | (refine vl_gu rfl ?_)
        | (refine vl_nil ?_)
        | (refine VC.seq ?_)
        | (refine VC.regV ?_)
        | (refine vl_idx rfl rfl (by omega) ?_)
        | (refine vl_alloc ?_)
        | (refine vl_stw rfl rfl rfl rfl (by first | rfl | assumption) (Nat.le_of_ble_eq_true rfl) ?_)
        | (refine sk_zero ?_)
        | (refine sk_succ ?_)
        | (refine wk_nil ?_)
        | (refine wk_cons ?_)
        | (refine vl_box rfl rfl ?_)
        | (refine vl_bsl rfl ?_)
        | (refine VC.dregV ?_)
        | (refine VC.block ?_)
        | (refine VC.ret ?_)
        | (refine VC.exit ?_)
        | (refine VC.skip ?_)
        | (refine seqQ_n ?_)
        | (refine seqQ_r ?_)
        | (refine seqQ_e ?_)
        | (refine blkQ_n ?_)
        | (refine blkQ_r ?_)
        | (refine blkQ_e ?_)
        | (refine blkQ_o rfl ?_)
        | (refine vl_gs rfl (fun hb => ?_) (fun hb => ?_))
        | (refine vl_ps rfl (fun hb => ?_) (fun hb => ?_))
        | (refine VC.cond _ rfl (fun hb => ?_) (fun hb => ?_)))
      refine ⟨_, i + 1, _, ?_, ⟨rfl, rfl, rfl, trivial⟩, Mem.le_refl _, rfl, hi, rfl, ?_⟩
      · omega
      · rw [List.take_add_one, List.take_add_one, hpre, gx, gy, hxy]
  · have hi : ¬ i < xs.length := by simpa using h
    repeat' (first
      | (refine vl_add rfl rfl (by omega) ?_)
      | (refine vl_sub rfl rfl (by omega) ?_)
      | (refine vl_mul rfl rfl (by omega) ?_)
      | (refine vl_pure rfl ?_)
      | (refine vl_gy rfl rfl ?_)
      | (refine vl_gn rfl rfl ?_)
      | (refine vl_gu rfl ?_)
      | (refine vl_nil ?_)
      | (refine VC.seq ?_)
      | (refine VC.regV ?_)
      | (refine vl_idx rfl rfl (by omega) ?_)
      | (refine vl_alloc ?_)
      | (refine vl_stw rfl rfl rfl rfl (by first | rfl | assumption) (Nat.le_of_ble_eq_true rfl) ?_)
      | (refine sk_zero ?_)
      | (refine sk_succ ?_)
      | (refine wk_nil ?_)
      | (refine wk_cons ?_)
      | (refine vl_box rfl rfl ?_)
      | (refine vl_bsl rfl ?_)
      | (refine VC.dregV ?_)
      | (refine VC.block ?_)
      | (refine VC.ret ?_)
      | (refine VC.exit ?_)
      | (refine VC.skip ?_)
      | (refine seqQ_n ?_)
      | (refine seqQ_r ?_)
      | (refine seqQ_e ?_)
      | (refine blkQ_n ?_)
      | (refine blkQ_r ?_)
      | (refine blkQ_e ?_)
      | (refine blkQ_o rfl ?_)
      | (refine vl_gs rfl (fun hb => ?_) (fun hb => ?_))
      | (refine vl_ps rfl (fun hb => ?_) (fun hb => ?_))
      | (refine VC.cond _ rfl (fun hb => ?_) (fun hb => ?_)))
    refine fnQ_r rfl (Mem.le_refl _) (q_end ?_)
    have hxy : xs = ys := by
      have e : i = xs.length := by omega
      subst e
      rw [List.take_of_length_le (by simp), List.take_of_length_le (by simp [hl])] at hpre
      exact hpre
    simp [hxy]

theorem eqActS_q {M : Mem} {va vb : Value} {xs ys : List Act} (ha : Sl M 5 av va xs) (hb : Sl M 5 av vb ys) : Qt Try.prog 22 [va, vb] M (.bool (decide (xs = ys))) := by
  obtain ⟨aa, ca, ea⟩ := ha.len
  obtain ⟨ab, cb, eb⟩ := hb.len
  refine fn22 (by simp) ?_
  subst ea; subst eb
  repeat' (first
    | (refine vl_add rfl rfl (by omega) ?_)
    | (refine vl_sub rfl rfl (by omega) ?_)
    | (refine vl_mul rfl rfl (by omega) ?_)
    | (refine vl_pure rfl ?_)
    | (refine vl_gy rfl rfl ?_)
    | (refine vl_gn rfl rfl ?_)
    | (refine vl_gu rfl ?_)
    | (refine vl_nil ?_)
    | (refine VC.seq ?_)
    | (refine VC.regV ?_)
    | (refine vl_idx rfl rfl (by omega) ?_)
    | (refine vl_alloc ?_)
    | (refine vl_stw rfl rfl rfl rfl (by first | rfl | assumption) (Nat.le_of_ble_eq_true rfl) ?_)
    | (refine sk_zero ?_)
    | (refine sk_succ ?_)
    | (refine wk_nil ?_)
    | (refine wk_cons ?_)
    | (refine vl_box rfl rfl ?_)
    | (refine vl_bsl rfl ?_)
    | (refine VC.dregV ?_)
    | (refine VC.block ?_)
    | (refine VC.ret ?_)
    | (refine VC.exit ?_)
    | (refine VC.skip ?_)
    | (refine seqQ_n ?_)
    | (refine seqQ_r ?_)
    | (refine seqQ_e ?_)
    | (refine blkQ_n ?_)
    | (refine blkQ_r ?_)
    | (refine blkQ_e ?_)
    | (refine blkQ_o rfl ?_)
    | (refine vl_gs rfl (fun hb => ?_) (fun hb => ?_))
    | (refine vl_ps rfl (fun hb => ?_) (fun hb => ?_)))
  refine VC.cond _ rfl (fun h => ?_) (fun h => ?_)
  · repeat' (first
      | (refine vl_add rfl rfl (by omega) ?_)
      | (refine vl_sub rfl rfl (by omega) ?_)
      | (refine vl_mul rfl rfl (by omega) ?_)
      | (refine vl_pure rfl ?_)
      | (refine vl_gy rfl rfl ?_)
      | (refine vl_gn rfl rfl ?_)
      | (refine vl_gu rfl ?_)
      | (refine vl_nil ?_)
      | (refine VC.seq ?_)
      | (refine VC.regV ?_)
      | (refine vl_idx rfl rfl (by omega) ?_)
      | (refine vl_alloc ?_)
      | (refine vl_stw rfl rfl rfl rfl (by first | rfl | assumption) (Nat.le_of_ble_eq_true rfl) ?_)
      | (refine sk_zero ?_)
      | (refine sk_succ ?_)
      | (refine wk_nil ?_)
      | (refine wk_cons ?_)
      | (refine vl_box rfl rfl ?_)
      | (refine vl_bsl rfl ?_)
      | (refine VC.dregV ?_)
      | (refine VC.block ?_)
      | (refine VC.ret ?_)
      | (refine VC.exit ?_)
      | (refine VC.skip ?_)
      | (refine seqQ_n ?_)
      | (refine seqQ_r ?_)
      | (refine seqQ_e ?_)
      | (refine blkQ_n ?_)
      | (refine blkQ_r ?_)
      | (refine blkQ_e ?_)
      | (refine blkQ_o rfl ?_)
      | (refine vl_gs rfl (fun hb => ?_) (fun hb => ?_))
      | (refine vl_ps rfl (fun hb => ?_) (fun hb => ?_))
      | (refine VC.cond _ rfl (fun hb => ?_) (fun hb => ?_)))
    refine fnQ_r rfl (Mem.le_refl _) (q_end ?_)
    have : xs ≠ ys := fun e => by have e2 := congrArg List.length e; first | (simp only [List.length_map] at e2; simp [e2] at h) | (simp [e2] at h)
    simp [this]
  have hbd := ha.bound
  have hl : xs.length = ys.length := Int.ofNat_inj.1 (by simpa using h)
  repeat' (first
    | (refine vl_add rfl rfl (by omega) ?_)
    | (refine vl_sub rfl rfl (by omega) ?_)
    | (refine vl_mul rfl rfl (by omega) ?_)
    | (refine vl_pure rfl ?_)
    | (refine vl_gy rfl rfl ?_)
    | (refine vl_gn rfl rfl ?_)
    | (refine vl_gu rfl ?_)
    | (refine vl_nil ?_)
    | (refine VC.seq ?_)
    | (refine VC.regV ?_)
    | (refine vl_idx rfl rfl (by omega) ?_)
    | (refine vl_alloc ?_)
    | (refine vl_stw rfl rfl rfl rfl (by first | rfl | assumption) (Nat.le_of_ble_eq_true rfl) ?_)
    | (refine sk_zero ?_)
    | (refine sk_succ ?_)
    | (refine wk_nil ?_)
    | (refine wk_cons ?_)
    | (refine vl_box rfl rfl ?_)
    | (refine vl_bsl rfl ?_)
    | (refine VC.dregV ?_)
    | (refine VC.block ?_)
    | (refine VC.ret ?_)
    | (refine VC.exit ?_)
    | (refine VC.skip ?_)
    | (refine seqQ_n ?_)
    | (refine seqQ_r ?_)
    | (refine seqQ_e ?_)
    | (refine blkQ_n ?_)
    | (refine blkQ_r ?_)
    | (refine blkQ_e ?_)
    | (refine blkQ_o rfl ?_)
    | (refine vl_gs rfl (fun hb => ?_) (fun hb => ?_))
    | (refine vl_ps rfl (fun hb => ?_) (fun hb => ?_)))
  refine VC.loop (α := Nat) (fun i => [(0, .v (.slice aa xs.length ca)), (1, .v (.slice ab ys.length cb)), (5, .v (.int .i64 i))]) (fun k i M' => k = xs.length - i ∧ i ≤ xs.length ∧ M' = M ∧ xs.take i = ys.take i)
    ⟨_, 0, M, ⟨rfl, rfl, rfl, trivial⟩, Mem.le_refl _, rfl, Nat.zero_le _, rfl, by simp⟩ ?_
  rintro k i M' ⟨rfl, hi, rfl, hpre⟩
  repeat' (first
    | (refine vl_add rfl rfl (by omega) ?_)
    | (refine vl_sub rfl rfl (by omega) ?_)
    | (refine vl_mul rfl rfl (by omega) ?_)
    | (refine vl_pure rfl ?_)
    | (refine vl_gy rfl rfl ?_)
    | (refine vl_gn rfl rfl ?_)
    | (refine vl_gu rfl ?_)
    | (refine vl_nil ?_)
    | (refine VC.seq ?_)
    | (refine VC.regV ?_)
    | (refine vl_idx rfl rfl (by omega) ?_)
    | (refine vl_alloc ?_)
    | (refine vl_stw rfl rfl rfl rfl (by first | rfl | assumption) (Nat.le_of_ble_eq_true rfl) ?_)
    | (refine sk_zero ?_)
    | (refine sk_succ ?_)
    | (refine wk_nil ?_)
    | (refine wk_cons ?_)
    | (refine vl_box rfl rfl ?_)
    | (refine vl_bsl rfl ?_)
    | (refine VC.dregV ?_)
    | (refine VC.block ?_)
    | (refine VC.ret ?_)
    | (refine VC.exit ?_)
    | (refine VC.skip ?_)
    | (refine seqQ_n ?_)
    | (refine seqQ_r ?_)
    | (refine seqQ_e ?_)
    | (refine blkQ_n ?_)
    | (refine blkQ_r ?_)
    | (refine blkQ_e ?_)
    | (refine blkQ_o rfl ?_)
    | (refine vl_gs rfl (fun hb => ?_) (fun hb => ?_))
    | (refine vl_ps rfl (fun hb => ?_) (fun hb => ?_)))
  refine VC.cond _ rfl (fun h => ?_) (fun h => ?_)
  · have hi : i < xs.length := by simpa using h
    obtain ⟨x, gx⟩ : ∃ x, xs[i]? = some x := ⟨_, List.getElem?_eq_getElem hi⟩
    obtain ⟨y, gy⟩ : ∃ y, ys[i]? = some y := ⟨_, List.getElem?_eq_getElem (hl ▸ hi)⟩
    obtain ⟨b1, o1, rfl, h1⟩ := ha.at2 (fun _ => rfl) gx
    obtain ⟨b2, o2, rfl, h2⟩ := hb.at2 (fun _ => rfl) gy
    repeat' (first
      | (refine vl_add rfl rfl (by omega) ?_)
      | (refine vl_sub rfl rfl (by omega) ?_)
      | (refine vl_mul rfl rfl (by omega) ?_)
      | (refine vl_pure rfl ?_)
      | (refine vl_gy rfl rfl ?_)
      | (refine vl_gn rfl rfl ?_)
      | (refine vl_gu rfl ?_)
      | (refine vl_ld rfl (by first | exact h1 | exact h2) ?_)
      | (refine vl_nil ?_)
      | (refine VC.seq ?_)
      | (refine VC.regV ?_)
      | (refine vl_idx rfl rfl (by omega) ?_)
      | (refine vl_lds rfl (by first | exact h1 | exact h2) ?_)
      | (refine vl_alloc ?_)
      | (refine vl_stw rfl rfl rfl rfl (by first | rfl | assumption) (Nat.le_of_ble_eq_true rfl) ?_)
      | (refine sk_zero ?_)
      | (refine sk_succ ?_)
      | (refine wk_nil ?_)
      | (refine wk_cons ?_)
      | (refine vl_box rfl rfl ?_)
      | (refine vl_bsl rfl ?_)
      | (refine vl_q rfl (eqAct_q) ?_)
      | (refine vl_cq rfl (eqAct_q) ?_)
      | (refine VC.dregV ?_)
      | (refine VC.block ?_)
      | (refine VC.ret ?_)
      | (refine VC.exit ?_)
      | (refine VC.skip ?_)
      | (refine seqQ_n ?_)
      | (refine seqQ_r ?_)
      | (refine seqQ_e ?_)
      | (refine blkQ_n ?_)
      | (refine blkQ_r ?_)
      | (refine blkQ_e ?_)
      | (refine blkQ_o rfl ?_)
      | (refine vl_gs rfl (fun hb => ?_) (fun hb => ?_))
      | (refine vl_ps rfl (fun hb => ?_) (fun hb => ?_)))
    refine VC.cond _ rfl (fun h => ?_) (fun h => ?_)
    · repeat' (first
        | (refine vl_add rfl rfl (by omega) ?_)
        | (refine vl_sub rfl rfl (by omega) ?_)
        | (refine vl_mul rfl rfl (by omega) ?_)
        | (refine vl_pure rfl ?_)
        | (refine vl_gy rfl rfl ?_)
        | (refine vl_gn rfl rfl ?_)
        | (refine vl_gu rfl ?_)
        | (refine vl_nil ?_)
        | (refine VC.seq ?_)
        | (refine VC.regV ?_)
        | (refine vl_idx rfl rfl (by omega) ?_)
        | (refine vl_alloc ?_)
        | (refine vl_stw rfl rfl rfl rfl (by first | rfl | assumption) (Nat.le_of_ble_eq_true rfl) ?_)
        | (refine sk_zero ?_)
        | (refine sk_succ ?_)
        | (refine wk_nil ?_)
        | (refine wk_cons ?_)
        | (refine vl_box rfl rfl ?_)
        | (refine vl_bsl rfl ?_)
        | (refine VC.dregV ?_)
        | (refine VC.block ?_)
        | (refine VC.ret ?_)
        | (refine VC.exit ?_)
        | (refine VC.skip ?_)
        | (refine seqQ_n ?_)
        | (refine seqQ_r ?_)
        | (refine seqQ_e ?_)
        | (refine blkQ_n ?_)
        | (refine blkQ_r ?_)
        | (refine blkQ_e ?_)
        | (refine blkQ_o rfl ?_)
        | (refine vl_gs rfl (fun hb => ?_) (fun hb => ?_))
        | (refine vl_ps rfl (fun hb => ?_) (fun hb => ?_))
        | (refine VC.cond _ rfl (fun hb => ?_) (fun hb => ?_)))
      refine fnQ_r rfl (Mem.le_refl _) (q_end ?_)
      have : xs ≠ ys := fun e => by subst e; rw [gx] at gy; cases gy; simp at h
      simp [this]
    · have hxy : x = y := by simpa using h
      repeat' (first
        | (refine vl_add rfl rfl (by omega) ?_)
        | (refine vl_sub rfl rfl (by omega) ?_)
        | (refine vl_mul rfl rfl (by omega) ?_)
        | (refine vl_pure rfl ?_)
        | (refine vl_gy rfl rfl ?_)
        | (refine vl_gn rfl rfl ?_)
        | (refine vl_gu rfl ?_)
        | (refine vl_nil ?_)
        | (refine VC.seq ?_)
        | (refine VC.regV ?_)
        | (refine vl_idx rfl rfl (by omega) ?_)
        | (refine vl_alloc ?_)
        | (refine vl_stw rfl rfl rfl rfl (by first | rfl | assumption) (Nat.le_of_ble_eq_true rfl) ?_)
        | (refine sk_zero ?_)
        | (refine sk_succ ?_)
        | (refine wk_nil ?_)
        | (refine wk_cons ?_)
        | (refine vl_box rfl rfl ?_)
        | (refine vl_bsl rfl ?_)
        | (refine VC.dregV ?_)
        | (refine VC.block ?_)
        | (refine VC.ret ?_)
        | (refine VC.exit ?_)
        | (refine VC.skip ?_)
        | (refine seqQ_n ?_)
        | (refine seqQ_r ?_)
        | (refine seqQ_e ?_)
        | (refine blkQ_n ?_)
        | (refine blkQ_r ?_)
        | (refine blkQ_e ?_)
        | (refine blkQ_o rfl ?_)
        | (refine vl_gs rfl (fun hb => ?_) (fun hb => ?_))
        | (refine vl_ps rfl (fun hb => ?_) (fun hb => ?_))
        | (refine VC.cond _ rfl (fun hb => ?_) (fun hb => ?_)))
      refine ⟨_, i + 1, _, ?_, ⟨rfl, rfl, rfl, trivial⟩, Mem.le_refl _, rfl, hi, rfl, ?_⟩
      · omega
      · rw [List.take_add_one, List.take_add_one, hpre, gx, gy, hxy]
  · have hi : ¬ i < xs.length := by simpa using h
    repeat' (first
      | (refine vl_add rfl rfl (by omega) ?_)
      | (refine vl_sub rfl rfl (by omega) ?_)
      | (refine vl_mul rfl rfl (by omega) ?_)
      | (refine vl_pure rfl ?_)
      | (refine vl_gy rfl rfl ?_)
      | (refine vl_gn rfl rfl ?_)
      | (refine vl_gu rfl ?_)
      | (refine vl_nil ?_)
      | (refine VC.seq ?_)
      | (refine VC.regV ?_)
      | (refine vl_idx rfl rfl (by omega) ?_)
      | (refine vl_alloc ?_)
      | (refine vl_stw rfl rfl rfl rfl (by first | rfl | assumption) (Nat.le_of_ble_eq_true rfl) ?_)
      | (refine sk_zero ?_)
      | (refine sk_succ ?_)
      | (refine wk_nil ?_)
      | (refine wk_cons ?_)
      | (refine vl_box rfl rfl ?_)
      | (refine vl_bsl rfl ?_)
      | (refine VC.dregV ?_)
      | (refine VC.block ?_)
      | (refine VC.ret ?_)
      | (refine VC.exit ?_)
      | (refine VC.skip ?_)
      | (refine seqQ_n ?_)
      | (refine seqQ_r ?_)
      | (refine seqQ_e ?_)
      | (refine blkQ_n ?_)
      | (refine blkQ_r ?_)
      | (refine blkQ_e ?_)
      | (refine blkQ_o rfl ?_)
      | (refine vl_gs rfl (fun hb => ?_) (fun hb => ?_))
      | (refine vl_ps rfl (fun hb => ?_) (fun hb => ?_))
      | (refine VC.cond _ rfl (fun hb => ?_) (fun hb => ?_)))
    refine fnQ_r rfl (Mem.le_refl _) (q_end ?_)
    have hxy : xs = ys := by
      have e : i = xs.length := by omega
      subst e
      rw [List.take_of_length_le (by simp), List.take_of_length_le (by simp [hl])] at hpre
      exact hpre
    simp [hxy]

theorem eqCell_q {M : Mem} {a b : CS} (ga : Sl M 6 pv a.s a.c.pairs) (gb : Sl M 6 pv b.s b.c.pairs) : Qt Try.prog 130 [ca a, ca b] M (.bool (decide (a.c = b.c))) := by
  refine fn130 (by simp) ?_
  repeat' (first
    | (refine vl_add rfl rfl (by omega) ?_)
    | (refine vl_sub rfl rfl (by omega) ?_)
    | (refine vl_mul rfl rfl (by omega) ?_)
    | (refine vl_pure rfl ?_)
    | (refine vl_gy rfl rfl ?_)
    | (refine vl_gn rfl rfl ?_)
    | (refine vl_gu rfl ?_)
    | (refine vl_nil ?_)
    | (refine VC.seq ?_)
    | (refine VC.regV ?_)
    | (refine vl_idx rfl rfl (by omega) ?_)
    | (refine vl_alloc ?_)
    | (refine vl_stw rfl rfl rfl rfl (by first | rfl | assumption) (Nat.le_of_ble_eq_true rfl) ?_)
    | (refine sk_zero ?_)
    | (refine sk_succ ?_)
    | (refine wk_nil ?_)
    | (refine wk_cons ?_)
    | (refine vl_box rfl rfl ?_)
    | (refine vl_bsl rfl ?_)
    | (refine vl_q rfl (eqPairS_q ga gb) ?_)
    | (refine vl_cq rfl (eqPairS_q ga gb) ?_)
    | (refine VC.dregV ?_)
    | (refine VC.block ?_)
    | (refine VC.ret ?_)
    | (refine VC.exit ?_)
    | (refine VC.skip ?_)
    | (refine seqQ_n ?_)
    | (refine seqQ_r ?_)
    | (refine seqQ_e ?_)
    | (refine blkQ_n ?_)
    | (refine blkQ_r ?_)
    | (refine blkQ_e ?_)
    | (refine blkQ_o rfl ?_)
    | (refine vl_gs rfl (fun hb => ?_) (fun hb => ?_))
    | (refine vl_ps rfl (fun hb => ?_) (fun hb => ?_))
    | (refine VC.cond _ rfl (fun hb => ?_) (fun hb => ?_)))
  all_goals (refine fnQ_r rfl (Mem.le_refl _) (q_end ?_))
  all_goals (obtain ⟨⟨⟩, _, _⟩ := a; obtain ⟨⟨⟩, _, _⟩ := b; simp_all)
theorem eqCellS_q {M : Mem} {va vb : Value} {xs ys : List CS} (ha : Sl M 8 csv va xs) (hb : Sl M 8 csv vb ys) (hx : ∀ x, x ∈ xs → Sl M 6 pv x.s x.c.pairs) (hy : ∀ x, x ∈ ys → Sl M 6 pv x.s x.c.pairs) : Qt Try.prog 73 [va, vb] M (.bool (decide (xs.map (·.c) = ys.map (·.c)))) := by
  obtain ⟨aa, ca, ea⟩ := ha.len
  obtain ⟨ab, cb, eb⟩ := hb.len
  refine fn73 (by simp) ?_
  subst ea; subst eb
  repeat' (first
    | (refine vl_add rfl rfl (by omega) ?_)
    | (refine vl_sub rfl rfl (by omega) ?_)
    | (refine vl_mul rfl rfl (by omega) ?_)
    | (refine vl_pure rfl ?_)
    | (refine vl_gy rfl rfl ?_)
    | (refine vl_gn rfl rfl ?_)
    | (refine vl_gu rfl ?_)
    | (refine vl_nil ?_)
    | (refine VC.seq ?_)
    | (refine VC.regV ?_)
    | (refine vl_idx rfl rfl (by omega) ?_)
    | (refine vl_alloc ?_)
    | (refine vl_stw rfl rfl rfl rfl (by first | rfl | assumption) (Nat.le_of_ble_eq_true rfl) ?_)
    | (refine sk_zero ?_)
    | (refine sk_succ ?_)
    | (refine wk_nil ?_)
    | (refine wk_cons ?_)
    | (refine vl_box rfl rfl ?_)
    | (refine vl_bsl rfl ?_)
    | (refine VC.dregV ?_)
    | (refine VC.block ?_)
    | (refine VC.ret ?_)
    | (refine VC.exit ?_)
    | (refine VC.skip ?_)
    | (refine seqQ_n ?_)
    | (refine seqQ_r ?_)
    | (refine seqQ_e ?_)
    | (refine blkQ_n ?_)
    | (refine blkQ_r ?_)
    | (refine blkQ_e ?_)
    | (refine blkQ_o rfl ?_)
    | (refine vl_gs rfl (fun hb => ?_) (fun hb => ?_))
    | (refine vl_ps rfl (fun hb => ?_) (fun hb => ?_)))
  refine VC.cond _ rfl (fun h => ?_) (fun h => ?_)
  · repeat' (first
      | (refine vl_add rfl rfl (by omega) ?_)
      | (refine vl_sub rfl rfl (by omega) ?_)
      | (refine vl_mul rfl rfl (by omega) ?_)
      | (refine vl_pure rfl ?_)
      | (refine vl_gy rfl rfl ?_)
      | (refine vl_gn rfl rfl ?_)
      | (refine vl_gu rfl ?_)
      | (refine vl_nil ?_)
      | (refine VC.seq ?_)
      | (refine VC.regV ?_)
      | (refine vl_idx rfl rfl (by omega) ?_)
      | (refine vl_alloc ?_)
      | (refine vl_stw rfl rfl rfl rfl (by first | rfl | assumption) (Nat.le_of_ble_eq_true rfl) ?_)
      | (refine sk_zero ?_)
      | (refine sk_succ ?_)
      | (refine wk_nil ?_)
      | (refine wk_cons ?_)
      | (refine vl_box rfl rfl ?_)
      | (refine vl_bsl rfl ?_)
      | (refine VC.dregV ?_)
      | (refine VC.block ?_)
      | (refine VC.ret ?_)
      | (refine VC.exit ?_)
      | (refine VC.skip ?_)
      | (refine seqQ_n ?_)
      | (refine seqQ_r ?_)
      | (refine seqQ_e ?_)
      | (refine blkQ_n ?_)
      | (refine blkQ_r ?_)
      | (refine blkQ_e ?_)
      | (refine blkQ_o rfl ?_)
      | (refine vl_gs rfl (fun hb => ?_) (fun hb => ?_))
      | (refine vl_ps rfl (fun hb => ?_) (fun hb => ?_))
      | (refine VC.cond _ rfl (fun hb => ?_) (fun hb => ?_)))
    refine fnQ_r rfl (Mem.le_refl _) (q_end ?_)
    have : xs.map (·.c) ≠ ys.map (·.c) := fun e => by have e2 := congrArg List.length e; first | (simp only [List.length_map] at e2; simp [e2] at h) | (simp [e2] at h)
    simp [this]
  have hbd := ha.bound
  have hl : xs.length = ys.length := Int.ofNat_inj.1 (by simpa using h)
  repeat' (first
    | (refine vl_add rfl rfl (by omega) ?_)
    | (refine vl_sub rfl rfl (by omega) ?_)
    | (refine vl_mul rfl rfl (by omega) ?_)
    | (refine vl_pure rfl ?_)
    | (refine vl_gy rfl rfl ?_)
    | (refine vl_gn rfl rfl ?_)
    | (refine vl_gu rfl ?_)
    | (refine vl_nil ?_)
    | (refine VC.seq ?_)
    | (refine VC.regV ?_)
    | (refine vl_idx rfl rfl (by omega) ?_)
    | (refine vl_alloc ?_)
    | (refine vl_stw rfl rfl rfl rfl (by first | rfl | assumption) (Nat.le_of_ble_eq_true rfl) ?_)
    | (refine sk_zero ?_)
    | (refine sk_succ ?_)
    | (refine wk_nil ?_)
    | (refine wk_cons ?_)
    | (refine vl_box rfl rfl ?_)
    | (refine vl_bsl rfl ?_)
    | (refine VC.dregV ?_)
    | (refine VC.block ?_)
    | (refine VC.ret ?_)
    | (refine VC.exit ?_)
    | (refine VC.skip ?_)
    | (refine seqQ_n ?_)
    | (refine seqQ_r ?_)
    | (refine seqQ_e ?_)
    | (refine blkQ_n ?_)
    | (refine blkQ_r ?_)
    | (refine blkQ_e ?_)
    | (refine blkQ_o rfl ?_)
    | (refine vl_gs rfl (fun hb => ?_) (fun hb => ?_))
    | (refine vl_ps rfl (fun hb => ?_) (fun hb => ?_)))
  refine VC.loop (α := Nat) (fun i => [(0, .v (.slice aa xs.length ca)), (1, .v (.slice ab ys.length cb)), (5, .v (.int .i64 i))]) (fun k i M' => k = xs.length - i ∧ i ≤ xs.length ∧ M' = M ∧ (xs.map (·.c)).take i = (ys.map (·.c)).take i)
    ⟨_, 0, M, ⟨rfl, rfl, rfl, trivial⟩, Mem.le_refl _, rfl, Nat.zero_le _, rfl, by simp⟩ ?_
  rintro k i M' ⟨rfl, hi, rfl, hpre⟩
  repeat' (first
    | (refine vl_add rfl rfl (by omega) ?_)
    | (refine vl_sub rfl rfl (by omega) ?_)
    | (refine vl_mul rfl rfl (by omega) ?_)
    | (refine vl_pure rfl ?_)
    | (refine vl_gy rfl rfl ?_)
    | (refine vl_gn rfl rfl ?_)
    | (refine vl_gu rfl ?_)
    | (refine vl_nil ?_)
    | (refine VC.seq ?_)
    | (refine VC.regV ?_)
    | (refine vl_idx rfl rfl (by omega) ?_)
    | (refine vl_alloc ?_)
    | (refine vl_stw rfl rfl rfl rfl (by first | rfl | assumption) (Nat.le_of_ble_eq_true rfl) ?_)
    | (refine sk_zero ?_)
    | (refine sk_succ ?_)
    | (refine wk_nil ?_)
    | (refine wk_cons ?_)
    | (refine vl_box rfl rfl ?_)
    | (refine vl_bsl rfl ?_)
    | (refine VC.dregV ?_)
    | (refine VC.block ?_)
    | (refine VC.ret ?_)
    | (refine VC.exit ?_)
    | (refine VC.skip ?_)
    | (refine seqQ_n ?_)
    | (refine seqQ_r ?_)
    | (refine seqQ_e ?_)
    | (refine blkQ_n ?_)
    | (refine blkQ_r ?_)
    | (refine blkQ_e ?_)
    | (refine blkQ_o rfl ?_)
    | (refine vl_gs rfl (fun hb => ?_) (fun hb => ?_))
    | (refine vl_ps rfl (fun hb => ?_) (fun hb => ?_)))
  refine VC.cond _ rfl (fun h => ?_) (fun h => ?_)
  · have hi : i < xs.length := by simpa using h
    obtain ⟨x, gx⟩ : ∃ x, xs[i]? = some x := ⟨_, List.getElem?_eq_getElem hi⟩
    obtain ⟨y, gy⟩ : ∃ y, ys[i]? = some y := ⟨_, List.getElem?_eq_getElem (hl ▸ hi)⟩
    obtain ⟨b1, o1, rfl, h1⟩ := ha.at2 (fun _ => rfl) gx
    obtain ⟨b2, o2, rfl, h2⟩ := hb.at2 (fun _ => rfl) gy
    repeat' (first
      | (refine vl_add rfl rfl (by omega) ?_)
      | (refine vl_sub rfl rfl (by omega) ?_)
      | (refine vl_mul rfl rfl (by omega) ?_)
      | (refine vl_pure rfl ?_)
      | (refine vl_gy rfl rfl ?_)
      | (refine vl_gn rfl rfl ?_)
      | (refine vl_gu rfl ?_)
      | (refine vl_ld rfl (by first | exact h1 | exact h2) ?_)
      | (refine vl_nil ?_)
      | (refine VC.seq ?_)
      | (refine VC.regV ?_)
      | (refine vl_idx rfl rfl (by omega) ?_)
      | (refine vl_lds rfl (by first | exact h1 | exact h2) ?_)
      | (refine vl_alloc ?_)
      | (refine vl_stw rfl rfl rfl rfl (by first | rfl | assumption) (Nat.le_of_ble_eq_true rfl) ?_)
      | (refine sk_zero ?_)
      | (refine sk_succ ?_)
      | (refine wk_nil ?_)
      | (refine wk_cons ?_)
      | (refine vl_box rfl rfl ?_)
      | (refine vl_bsl rfl ?_)
      | (refine vl_q rfl (eqCell_q (hx _ (List.mem_of_getElem? gx)) (hy _ (List.mem_of_getElem? gy))) ?_)
      | (refine vl_cq rfl (eqCell_q (hx _ (List.mem_of_getElem? gx)) (hy _ (List.mem_of_getElem? gy))) ?_)
      | (refine VC.dregV ?_)
      | (refine VC.block ?_)
      | (refine VC.ret ?_)
      | (refine VC.exit ?_)
      | (refine VC.skip ?_)
      | (refine seqQ_n ?_)
      | (refine seqQ_r ?_)
      | (refine seqQ_e ?_)
      | (refine blkQ_n ?_)
      | (refine blkQ_r ?_)
      | (refine blkQ_e ?_)
      | (refine blkQ_o rfl ?_)
      | (refine vl_gs rfl (fun hb => ?_) (fun hb => ?_))
      | (refine vl_ps rfl (fun hb => ?_) (fun hb => ?_)))
    refine VC.cond _ rfl (fun h => ?_) (fun h => ?_)
    · repeat' (first
        | (refine vl_add rfl rfl (by omega) ?_)
        | (refine vl_sub rfl rfl (by omega) ?_)
        | (refine vl_mul rfl rfl (by omega) ?_)
        | (refine vl_pure rfl ?_)
        | (refine vl_gy rfl rfl ?_)
        | (refine vl_gn rfl rfl ?_)
        | (refine vl_gu rfl ?_)
        | (refine vl_nil ?_)
        | (refine VC.seq ?_)
        | (refine VC.regV ?_)
        | (refine vl_idx rfl rfl (by omega) ?_)
        | (refine vl_alloc ?_)
        | (refine vl_stw rfl rfl rfl rfl (by first | rfl | assumption) (Nat.le_of_ble_eq_true rfl) ?_)
        | (refine sk_zero ?_)
        | (refine sk_succ ?_)
        | (refine wk_nil ?_)
        | (refine wk_cons ?_)
        | (refine vl_box rfl rfl ?_)
        | (refine vl_bsl rfl ?_)
        | (refine VC.dregV ?_)
        | (refine VC.block ?_)
        | (refine VC.ret ?_)
        | (refine VC.exit ?_)
        | (refine VC.skip ?_)
        | (refine seqQ_n ?_)
        | (refine seqQ_r ?_)
        | (refine seqQ_e ?_)
        | (refine blkQ_n ?_)
        | (refine blkQ_r ?_)
        | (refine blkQ_e ?_)
        | (refine blkQ_o rfl ?_)
        | (refine vl_gs rfl (fun hb => ?_) (fun hb => ?_))
        | (refine vl_ps rfl (fun hb => ?_) (fun hb => ?_))
        | (refine VC.cond _ rfl (fun hb => ?_) (fun hb => ?_)))
      refine fnQ_r rfl (Mem.le_refl _) (q_end ?_)
      have : xs.map (·.c) ≠ ys.map (·.c) := fun e => by have e1 := congrArg (·[i]?) e; simp only [List.getElem?_map, gx, gy, Option.map_some, Option.some.injEq] at e1; simp [e1] at h
      simp [this]
    · have hxy : x.c = y.c := by simpa using h
      repeat' (first
        | (refine vl_add rfl rfl (by omega) ?_)
        | (refine vl_sub rfl rfl (by omega) ?_)
        | (refine vl_mul rfl rfl (by omega) ?_)
        | (refine vl_pure rfl ?_)
        | (refine vl_gy rfl rfl ?_)
        | (refine vl_gn rfl rfl ?_)
        | (refine vl_gu rfl ?_)
        | (refine vl_nil ?_)
        | (refine VC.seq ?_)
        | (refine VC.regV ?_)
        | (refine vl_idx rfl rfl (by omega) ?_)
        | (refine vl_alloc ?_)
        | (refine vl_stw rfl rfl rfl rfl (by first | rfl | assumption) (Nat.le_of_ble_eq_true rfl) ?_)
        | (refine sk_zero ?_)
        | (refine sk_succ ?_)
        | (refine wk_nil ?_)
        | (refine wk_cons ?_)
        | (refine vl_box rfl rfl ?_)
        | (refine vl_bsl rfl ?_)
        | (refine VC.dregV ?_)
        | (refine VC.block ?_)
        | (refine VC.ret ?_)
        | (refine VC.exit ?_)
        | (refine VC.skip ?_)
        | (refine seqQ_n ?_)
        | (refine seqQ_r ?_)
        | (refine seqQ_e ?_)
        | (refine blkQ_n ?_)
        | (refine blkQ_r ?_)
        | (refine blkQ_e ?_)
        | (refine blkQ_o rfl ?_)
        | (refine vl_gs rfl (fun hb => ?_) (fun hb => ?_))
        | (refine vl_ps rfl (fun hb => ?_) (fun hb => ?_))
        | (refine VC.cond _ rfl (fun hb => ?_) (fun hb => ?_)))
      refine ⟨_, i + 1, _, ?_, ⟨rfl, rfl, rfl, trivial⟩, Mem.le_refl _, rfl, hi, rfl, ?_⟩
      · omega
      · rw [List.take_add_one, List.take_add_one, hpre, List.getElem?_map, List.getElem?_map, gx, gy, Option.map_some, Option.map_some, hxy]
  · have hi : ¬ i < xs.length := by simpa using h
    repeat' (first
      | (refine vl_add rfl rfl (by omega) ?_)
      | (refine vl_sub rfl rfl (by omega) ?_)
      | (refine vl_mul rfl rfl (by omega) ?_)
      | (refine vl_pure rfl ?_)
      | (refine vl_gy rfl rfl ?_)
      | (refine vl_gn rfl rfl ?_)
      | (refine vl_gu rfl ?_)
      | (refine vl_nil ?_)
      | (refine VC.seq ?_)
      | (refine VC.regV ?_)
      | (refine vl_idx rfl rfl (by omega) ?_)
      | (refine vl_alloc ?_)
      | (refine vl_stw rfl rfl rfl rfl (by first | rfl | assumption) (Nat.le_of_ble_eq_true rfl) ?_)
      | (refine sk_zero ?_)
      | (refine sk_succ ?_)
      | (refine wk_nil ?_)
      | (refine wk_cons ?_)
      | (refine vl_box rfl rfl ?_)
      | (refine vl_bsl rfl ?_)
      | (refine VC.dregV ?_)
      | (refine VC.block ?_)
      | (refine VC.ret ?_)
      | (refine VC.exit ?_)
      | (refine VC.skip ?_)
      | (refine seqQ_n ?_)
      | (refine seqQ_r ?_)
      | (refine seqQ_e ?_)
      | (refine blkQ_n ?_)
      | (refine blkQ_r ?_)
      | (refine blkQ_e ?_)
      | (refine blkQ_o rfl ?_)
      | (refine vl_gs rfl (fun hb => ?_) (fun hb => ?_))
      | (refine vl_ps rfl (fun hb => ?_) (fun hb => ?_))
      | (refine VC.cond _ rfl (fun hb => ?_) (fun hb => ?_)))
    refine fnQ_r rfl (Mem.le_refl _) (q_end ?_)
    have hxy : xs.map (·.c) = ys.map (·.c) := by
      have e : i = xs.length := by omega
      subst e
      rw [List.take_of_length_le (by simp), List.take_of_length_le (by simp [hl])] at hpre
      exact hpre
    simp [hxy]

end Go.Proofs.Ytcmllambknfleaa.E
