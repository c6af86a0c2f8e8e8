/- A part of the proof. Conditions: none. -/
import Derived.Test.YtcmllambknfleaaKD3
import Derived.Test.YtcmllambknfleaaChecked
set_option maxRecDepth 100000
set_option linter.unusedVariables false
namespace Go.Proofs.Ytcmllambknfleaa.E
open Go
theorem mixed : Try.prog.follows .mixedOrders = true := Try.checked.mixed
noncomputable def e106 : Env := ⟨Try.prog, [3], 38, [(7, 14)]⟩
noncomputable def c106 : C :=
  .seq (.reg [
    ⟨some 3, none, .box true (.tmp 1)⟩,
    ⟨some 4, none, .mov (.const (.bool false))⟩]) (.seq (.seq (.reg [
    ⟨some 5, none, .faddr 0 (.tmp 3)⟩,
    ⟨some 6, none, .load true 1 (.tmp 5)⟩]) (.block 0 (.seq (.reg [
    ⟨some 8, none, .bin .eql (.tmp 6) (.const (.int .i64 0))⟩,
    ⟨some 7, none, .mov (.tmp 8)⟩]) (.cond (.tmp 7) (.seq (.reg [
    ⟨some 9, none, .faddr 1 (.tmp 3)⟩,
    ⟨some 10, none, .load true 1 (.tmp 9)⟩,
    ⟨some 11, none, .bin .eql (.tmp 10) (.const (.int .i64 0))⟩,
    ⟨some 12, none, .mov (.tmp 11)⟩,
    ⟨some 13, some (12, true), .faddr 2 (.tmp 3)⟩,
    ⟨some 14, some (12, true), .load true 1 (.tmp 13)⟩,
    ⟨some 15, some (12, true), .bin .eql (.tmp 14) (.const (.int .i64 0))⟩,
    ⟨some 16, none, .pick (.tmp 12) (.tmp 15) (.const (.bool false))⟩,
    ⟨some 4, none, .mov (.tmp 16)⟩]) (.ret)) (.seq (.reg [
    ⟨some 18, none, .bin .eql (.tmp 6) (.const (.int .i64 1))⟩,
    ⟨some 17, none, .mov (.tmp 18)⟩]) (.cond (.tmp 17) (.seq (.reg [
    ⟨some 19, none, .faddr 2 (.tmp 3)⟩,
    ⟨some 20, none, .load true 1 (.tmp 19)⟩,
    ⟨some 21, none, .bin .eql (.tmp 20) (.const (.int .i64 0))⟩,
    ⟨some 4, none, .mov (.tmp 21)⟩]) (.ret)) (.seq (.reg [
    ⟨some 23, none, .bin .eql (.tmp 6) (.const (.int .i64 2))⟩,
    ⟨some 22, none, .mov (.tmp 23)⟩]) (.cond (.tmp 22) (.seq (.dreg 14 [
    ⟨some 24, none, .faddr 1 (.tmp 3)⟩,
    ⟨some 25, none, .load true 1 (.tmp 24)⟩,
    ⟨some 26, none, .bin .eql (.tmp 25) (.const (.int .i64 0))⟩,
    ⟨some 27, none, .mov (.tmp 26)⟩,
    ⟨some 28, some (27, true), .faddr 2 (.tmp 3)⟩,
    ⟨some 29, some (27, true), .load true 1 (.tmp 28)⟩,
    ⟨some 30, some (27, true), .mov (.tmp 0)⟩,
    ⟨some 31, some (27, true), .nilCheck (.tmp 30)⟩,
    ⟨some 32, some (27, true), .faddr 4 (.tmp 31)⟩,
    ⟨some 33, some (27, true), .load true 1 (.tmp 32)⟩,
    ⟨some 34, some (27, true), .lenS (.tmp 33)⟩,
    ⟨some 35, some (27, true), .bin .sub (.tmp 34) (.const (.int .i64 1))⟩,
    ⟨some 36, some (27, true), .qcall 71 [.tmp 29, .const (.int .i64 0), .tmp 35]⟩,
    ⟨some 37, none, .pick (.tmp 27) (.tmp 36) (.const (.bool false))⟩,
    ⟨some 4, none, .mov (.tmp 37)⟩]) (.ret)) (.skip))))))))) (.seq (.reg [
    ⟨some 4, none, .mov (.const (.bool false))⟩]) (.ret)))
theorem t106 : Try.f106.body.bind (trC e106) = some c106 := by kernel_rfl
theorem r106 : Try.f106.results.toList.mapM (trR Try.prog) = some [.tmp 4] := by kernel_rfl
theorem fn106 {args : List Value} {M : Mem} {post : Value → Mem → Prop} (hl : args.length ≤ 38) (h : VC e106 c106 (fnQ [.tmp 4] post) (initS args 38) M) : Fn Try.prog 106 args M post :=
  Fn.of' (E := e106) Try.func106 t106 rfl r106 mixed hl h
noncomputable def e143 : Env := ⟨Try.prog, [4], 36, [(3, 9)]⟩
noncomputable def c143 : C :=
  .seq (.reg [
    ⟨some 4, none, .box true (.tmp 1)⟩,
    ⟨some 6, none, .mov (.const (.bool false))⟩]) (.seq (.seq (.reg [
    ⟨some 8, none, .faddr 0 (.tmp 4)⟩,
    ⟨some 9, none, .load true 1 (.tmp 8)⟩,
    ⟨some 10, none, .bin .neq (.tmp 9) (.const (.int .i64 2))⟩]) (.cond (.tmp 10) (.seq (.reg [
    ⟨some 6, none, .mov (.const (.bool true))⟩]) (.ret)) (.skip))) (.seq (.dreg 9 [
    ⟨some 11, none, .mov (.tmp 0)⟩,
    ⟨some 12, none, .nilCheck (.tmp 11)⟩,
    ⟨some 13, none, .faddr 4 (.tmp 12)⟩,
    ⟨some 14, none, .load true 1 (.tmp 13)⟩,
    ⟨some 15, none, .faddr 2 (.tmp 4)⟩,
    ⟨some 16, none, .load true 1 (.tmp 15)⟩,
    ⟨some 17, none, .iaddr 8 (.tmp 14) (.tmp 16)⟩,
    ⟨some 18, none, .faddr 0 (.tmp 17)⟩,
    ⟨some 19, none, .load true 1 (.tmp 18)⟩,
    ⟨some 7, none, .mov (.tmp 19)⟩]) (.seq (.reg [
    ⟨some 20, none, .mov (.tmp 7)⟩,
    ⟨some 21, none, .bin .eql (.tmp 20) (.const (.int .i64 1))⟩,
    ⟨some 22, none, .mov (.tmp 21)⟩,
    ⟨some 23, some (22, true), .mov (.tmp 0)⟩,
    ⟨some 24, some (22, true), .faddr 2 (.tmp 4)⟩,
    ⟨some 25, some (22, true), .load true 1 (.tmp 24)⟩,
    ⟨some 26, some (22, true), .call 144 [.tmp 23, .tmp 25]⟩,
    ⟨some 27, some (22, true), .not (.tmp 26)⟩,
    ⟨some 28, none, .pick (.tmp 22) (.tmp 27) (.const (.bool false))⟩,
    ⟨some 29, none, .mov (.tmp 28)⟩,
    ⟨some 30, some (29, false), .mov (.tmp 7)⟩,
    ⟨some 31, some (29, false), .bin .eql (.tmp 30) (.const (.int .i64 2))⟩,
    ⟨some 32, some (29, false), .mov (.tmp 31)⟩,
    ⟨some 33, some (32, true), .mov (.tmp 2)⟩,
    ⟨some 34, some (29, false), .pick (.tmp 32) (.tmp 33) (.const (.bool false))⟩,
    ⟨some 35, none, .pick (.tmp 29) (.const (.bool true)) (.tmp 34)⟩,
    ⟨some 6, none, .mov (.tmp 35)⟩]) (.ret))))
theorem t143 : Try.f143.body.bind (trC e143) = some c143 := by kernel_rfl
theorem r143 : Try.f143.results.toList.mapM (trR Try.prog) = some [.tmp 6] := by kernel_rfl
theorem fn143 {args : List Value} {M : Mem} {post : Value → Mem → Prop} (hl : args.length ≤ 36) (h : VC e143 c143 (fnQ [.tmp 6] post) (initS args 36) M) : Fn Try.prog 143 args M post :=
  Fn.of' (E := e143) Try.func143 t143 rfl r143 mixed hl h
noncomputable def e144 : Env := ⟨Try.prog, [5], 36, []⟩
noncomputable def c144 : C :=
  .seq (.reg [
    ⟨some 4, none, .mov (.const (.bool false))⟩]) (.seq (.reg [
    ⟨some 6, none, .mov (.tmp 0)⟩,
    ⟨some 7, none, .nilCheck (.tmp 6)⟩,
    ⟨some 8, none, .faddr 4 (.tmp 7)⟩,
    ⟨some 9, none, .load true 1 (.tmp 8)⟩,
    ⟨some 10, none, .mov (.tmp 1)⟩,
    ⟨some 11, none, .iaddr 8 (.tmp 9) (.tmp 10)⟩,
    ⟨some 12, none, .load false 8 (.tmp 11)⟩,
    ⟨some 5, none, .alloc true [.int .i64 0, .int .i64 0, .int .i64 0, .int .i64 0, .int .i64 0, .int .i64 0, .int .i64 0, .slice none 0 0]⟩,
    ⟨none, none, .store 8 (.tmp 5) (.tmp 12)⟩]) (.seq (.reg [
    ⟨some 13, none, .mov (.tmp 0)⟩,
    ⟨some 14, none, .nilCheck (.tmp 13)⟩,
    ⟨some 15, none, .faddr 5 (.tmp 14)⟩,
    ⟨some 16, none, .load true 1 (.tmp 15)⟩,
    ⟨some 17, none, .bin .eql (.tmp 16) (.const (.int .i64 3))⟩,
    ⟨some 18, none, .mov (.tmp 17)⟩,
    ⟨some 19, some (18, true), .faddr 0 (.tmp 5)⟩,
    ⟨some 20, some (18, true), .load true 1 (.tmp 19)⟩,
    ⟨some 21, some (18, true), .bin .eql (.tmp 20) (.const (.int .i64 1))⟩,
    ⟨some 22, none, .pick (.tmp 18) (.tmp 21) (.const (.bool false))⟩,
    ⟨some 23, none, .mov (.tmp 22)⟩,
    ⟨some 24, some (23, true), .faddr 5 (.tmp 5)⟩,
    ⟨some 25, some (23, true), .load true 1 (.tmp 24)⟩,
    ⟨some 26, some (23, true), .bin .eql (.tmp 25) (.const (.int .i64 0))⟩,
    ⟨some 27, none, .pick (.tmp 23) (.tmp 26) (.const (.bool false))⟩,
    ⟨some 28, none, .mov (.tmp 27)⟩,
    ⟨some 29, some (28, true), .mov (.tmp 1)⟩,
    ⟨some 30, some (28, true), .mov (.tmp 0)⟩,
    ⟨some 31, some (28, true), .nilCheck (.tmp 30)⟩,
    ⟨some 32, some (28, true), .faddr 6 (.tmp 31)⟩,
    ⟨some 33, some (28, true), .load true 1 (.tmp 32)⟩,
    ⟨some 34, some (28, true), .bin .geq (.tmp 29) (.tmp 33)⟩,
    ⟨some 35, none, .pick (.tmp 28) (.tmp 34) (.const (.bool false))⟩,
    ⟨some 4, none, .mov (.tmp 35)⟩]) (.ret)))
theorem t144 : Try.f144.body.bind (trC e144) = some c144 := by kernel_rfl
theorem r144 : Try.f144.results.toList.mapM (trR Try.prog) = some [.tmp 4] := by kernel_rfl
theorem fn144 {args : List Value} {M : Mem} {post : Value → Mem → Prop} (hl : args.length ≤ 36) (h : VC e144 c144 (fnQ [.tmp 4] post) (initS args 36) M) : Fn Try.prog 144 args M post :=
  Fn.of' (E := e144) Try.func144 t144 rfl r144 mixed hl h
noncomputable def e146 : Env := ⟨Try.prog, [], 37, []⟩
noncomputable def c146 : C :=
  .seq (.reg [
    ⟨some 6, none, .mov (.const (.bool false))⟩]) (.seq (.seq (.reg [
    ⟨some 7, none, .mov (.tmp 0)⟩,
    ⟨some 8, none, .nilCheck (.tmp 7)⟩,
    ⟨some 9, none, .faddr 5 (.tmp 8)⟩,
    ⟨some 10, none, .load true 1 (.tmp 9)⟩]) (.block 0 (.seq (.reg [
    ⟨some 12, none, .bin .eql (.tmp 10) (.const (.int .i64 4))⟩,
    ⟨some 11, none, .mov (.tmp 12)⟩]) (.cond (.tmp 11) (.seq (.reg [
    ⟨some 6, none, .mov (.const (.bool false))⟩]) (.ret)) (.seq (.reg [
    ⟨some 14, none, .bin .eql (.tmp 10) (.const (.int .i64 5))⟩,
    ⟨some 13, none, .mov (.tmp 14)⟩]) (.cond (.tmp 13) (.seq (.reg [
    ⟨some 15, none, .mov (.tmp 1)⟩,
    ⟨some 16, none, .mov (.tmp 0)⟩,
    ⟨some 17, none, .nilCheck (.tmp 16)⟩,
    ⟨some 18, none, .faddr 6 (.tmp 17)⟩,
    ⟨some 19, none, .load true 1 (.tmp 18)⟩,
    ⟨some 20, none, .bin .lss (.tmp 15) (.tmp 19)⟩,
    ⟨some 21, none, .mov (.tmp 20)⟩,
    ⟨some 22, some (21, false), .mov (.tmp 1)⟩,
    ⟨some 23, some (21, false), .mov (.tmp 0)⟩,
    ⟨some 24, some (21, false), .nilCheck (.tmp 23)⟩,
    ⟨some 25, some (21, false), .faddr 6 (.tmp 24)⟩,
    ⟨some 26, some (21, false), .load true 1 (.tmp 25)⟩,
    ⟨some 27, some (21, false), .bin .eql (.tmp 22) (.tmp 26)⟩,
    ⟨some 28, some (21, false), .mov (.tmp 27)⟩,
    ⟨some 29, some (28, true), .mov (.tmp 2)⟩,
    ⟨some 30, some (28, true), .mov (.tmp 0)⟩,
    ⟨some 31, some (28, true), .nilCheck (.tmp 30)⟩,
    ⟨some 32, some (28, true), .faddr 7 (.tmp 31)⟩,
    ⟨some 33, some (28, true), .load true 1 (.tmp 32)⟩,
    ⟨some 34, some (28, true), .bin .lss (.tmp 29) (.tmp 33)⟩,
    ⟨some 35, some (21, false), .pick (.tmp 28) (.tmp 34) (.const (.bool false))⟩,
    ⟨some 36, none, .pick (.tmp 21) (.const (.bool true)) (.tmp 35)⟩,
    ⟨some 6, none, .mov (.tmp 36)⟩]) (.ret)) (.skip))))))) (.seq (.reg [
    ⟨some 6, none, .mov (.const (.bool true))⟩]) (.ret)))
theorem t146 : Try.f146.body.bind (trC e146) = some c146 := by kernel_rfl
theorem r146 : Try.f146.results.toList.mapM (trR Try.prog) = some [.tmp 6] := by kernel_rfl
theorem fn146 {args : List Value} {M : Mem} {post : Value → Mem → Prop} (hl : args.length ≤ 37) (h : VC e146 c146 (fnQ [.tmp 6] post) (initS args 37) M) : Fn Try.prog 146 args M post :=
  Fn.of' (E := e146) Try.func146 t146 rfl r146 mixed hl h
noncomputable def e147 : Env := ⟨Try.prog, [], 15, []⟩
noncomputable def c147 : C :=
  .seq (.reg [
    ⟨some 2, none, .mov (.const (.bool false))⟩]) (.seq (.reg [
    ⟨some 3, none, .mov (.tmp 0)⟩,
    ⟨some 4, none, .nilCheck (.tmp 3)⟩,
    ⟨some 5, none, .faddr 5 (.tmp 4)⟩,
    ⟨some 6, none, .load true 1 (.tmp 5)⟩,
    ⟨some 7, none, .bin .eql (.tmp 6) (.const (.int .i64 1))⟩,
    ⟨some 8, none, .mov (.tmp 7)⟩,
    ⟨some 9, some (8, false), .mov (.tmp 0)⟩,
    ⟨some 10, some (8, false), .nilCheck (.tmp 9)⟩,
    ⟨some 11, some (8, false), .faddr 5 (.tmp 10)⟩,
    ⟨some 12, some (8, false), .load true 1 (.tmp 11)⟩,
    ⟨some 13, some (8, false), .bin .eql (.tmp 12) (.const (.int .i64 2))⟩,
    ⟨some 14, none, .pick (.tmp 8) (.const (.bool true)) (.tmp 13)⟩,
    ⟨some 2, none, .mov (.tmp 14)⟩]) (.ret))
theorem t147 : Try.f147.body.bind (trC e147) = some c147 := by kernel_rfl
theorem r147 : Try.f147.results.toList.mapM (trR Try.prog) = some [.tmp 2] := by kernel_rfl
theorem fn147 {args : List Value} {M : Mem} {post : Value → Mem → Prop} (hl : args.length ≤ 15) (h : VC e147 c147 (fnQ [.tmp 2] post) (initS args 15) M) : Fn Try.prog 147 args M post :=
  Fn.of' (E := e147) Try.func147 t147 rfl r147 mixed hl h
noncomputable def e148 : Env := ⟨Try.prog, [3], 20, [(1, 15)]⟩
noncomputable def c148 : C :=
  .seq (.reg [
    ⟨some 3, none, .box true (.tmp 1)⟩,
    ⟨some 4, none, .mov (.const (.bool false))⟩]) (.seq (.dreg 15 [
    ⟨some 5, none, .faddr 0 (.tmp 3)⟩,
    ⟨some 6, none, .load true 1 (.tmp 5)⟩,
    ⟨some 7, none, .bin .eql (.tmp 6) (.const (.int .i64 2))⟩,
    ⟨some 8, none, .mov (.tmp 7)⟩,
    ⟨some 9, some (8, true), .mov (.tmp 0)⟩,
    ⟨some 10, some (8, true), .nilCheck (.tmp 9)⟩,
    ⟨some 11, some (8, true), .faddr 4 (.tmp 10)⟩,
    ⟨some 12, some (8, true), .load true 1 (.tmp 11)⟩,
    ⟨some 13, some (8, true), .faddr 2 (.tmp 3)⟩,
    ⟨some 14, some (8, true), .load true 1 (.tmp 13)⟩,
    ⟨some 15, some (8, true), .iaddr 8 (.tmp 12) (.tmp 14)⟩,
    ⟨some 16, some (8, true), .faddr 5 (.tmp 15)⟩,
    ⟨some 17, some (8, true), .load true 1 (.tmp 16)⟩,
    ⟨some 18, some (8, true), .bin .eql (.tmp 17) (.const (.int .i64 0))⟩,
    ⟨some 19, none, .pick (.tmp 8) (.tmp 18) (.const (.bool false))⟩,
    ⟨some 4, none, .mov (.tmp 19)⟩]) (.ret))
theorem t148 : Try.f148.body.bind (trC e148) = some c148 := by kernel_rfl
theorem r148 : Try.f148.results.toList.mapM (trR Try.prog) = some [.tmp 4] := by kernel_rfl
theorem fn148 {args : List Value} {M : Mem} {post : Value → Mem → Prop} (hl : args.length ≤ 20) (h : VC e148 c148 (fnQ [.tmp 4] post) (initS args 20) M) : Fn Try.prog 148 args M post :=
  Fn.of' (E := e148) Try.func148 t148 rfl r148 mixed hl h
noncomputable def e141 : Env := ⟨Try.prog, [1], 32, []⟩
noncomputable def c141 : C :=
  .seq (.reg [
    ⟨some 1, none, .box true (.tmp 0)⟩,
    ⟨some 2, none, .mov (.const (.bool false))⟩]) (.seq (.reg [
    ⟨some 3, none, .faddr 1 (.tmp 1)⟩,
    ⟨some 4, none, .load true 1 (.tmp 3)⟩,
    ⟨some 5, none, .bin .eql (.tmp 4) (.const (.int .i64 0))⟩,
    ⟨some 6, none, .mov (.tmp 5)⟩,
    ⟨some 7, some (6, true), .faddr 2 (.tmp 1)⟩,
    ⟨some 8, some (6, true), .load true 1 (.tmp 7)⟩,
    ⟨some 9, some (6, true), .bin .eql (.tmp 8) (.const (.int .i64 0))⟩,
    ⟨some 10, none, .pick (.tmp 6) (.tmp 9) (.const (.bool false))⟩,
    ⟨some 11, none, .mov (.tmp 10)⟩,
    ⟨some 12, some (11, true), .faddr 3 (.tmp 1)⟩,
    ⟨some 13, some (11, true), .load true 1 (.tmp 12)⟩,
    ⟨some 14, some (11, true), .bin .eql (.tmp 13) (.const (.int .i64 0))⟩,
    ⟨some 15, none, .pick (.tmp 11) (.tmp 14) (.const (.bool false))⟩,
    ⟨some 16, none, .mov (.tmp 15)⟩,
    ⟨some 17, some (16, true), .faddr 4 (.tmp 1)⟩,
    ⟨some 18, some (16, true), .load true 1 (.tmp 17)⟩,
    ⟨some 19, some (16, true), .bin .eql (.tmp 18) (.const (.int .i64 0))⟩,
    ⟨some 20, none, .pick (.tmp 16) (.tmp 19) (.const (.bool false))⟩,
    ⟨some 21, none, .mov (.tmp 20)⟩,
    ⟨some 22, some (21, true), .faddr 5 (.tmp 1)⟩,
    ⟨some 23, some (21, true), .load true 1 (.tmp 22)⟩,
    ⟨some 24, some (21, true), .bin .eql (.tmp 23) (.const (.int .i64 0))⟩,
    ⟨some 25, none, .pick (.tmp 21) (.tmp 24) (.const (.bool false))⟩,
    ⟨some 26, none, .mov (.tmp 25)⟩,
    ⟨some 27, some (26, true), .faddr 7 (.tmp 1)⟩,
    ⟨some 28, some (26, true), .load true 1 (.tmp 27)⟩,
    ⟨some 29, some (26, true), .lenS (.tmp 28)⟩,
    ⟨some 30, some (26, true), .bin .eql (.tmp 29) (.const (.int .i64 0))⟩,
    ⟨some 31, none, .pick (.tmp 26) (.tmp 30) (.const (.bool false))⟩,
    ⟨some 2, none, .mov (.tmp 31)⟩]) (.ret))
theorem t141 : Try.f141.body.bind (trC e141) = some c141 := by kernel_rfl
theorem r141 : Try.f141.results.toList.mapM (trR Try.prog) = some [.tmp 2] := by kernel_rfl
theorem fn141 {args : List Value} {M : Mem} {post : Value → Mem → Prop} (hl : args.length ≤ 32) (h : VC e141 c141 (fnQ [.tmp 2] post) (initS args 32) M) : Fn Try.prog 141 args M post :=
  Fn.of' (E := e141) Try.func141 t141 rfl r141 mixed hl h
noncomputable def e142 : Env := ⟨Try.prog, [1], 10, []⟩
noncomputable def c142 : C :=
  .seq (.reg [
    ⟨some 1, none, .box true (.tmp 0)⟩,
    ⟨some 2, none, .mov (.const (.int .i64 0))⟩]) (.seq (.seq (.reg [
    ⟨some 3, none, .faddr 0 (.tmp 1)⟩,
    ⟨some 4, none, .load true 1 (.tmp 3)⟩,
    ⟨some 5, none, .bin .neq (.tmp 4) (.const (.int .i64 1))⟩]) (.cond (.tmp 5) (.seq (.reg [
    ⟨some 2, none, .mov (.const (.int .i64 0))⟩]) (.ret)) (.skip))) (.seq (.reg [
    ⟨some 6, none, .faddr 7 (.tmp 1)⟩,
    ⟨some 7, none, .load true 1 (.tmp 6)⟩,
    ⟨some 8, none, .lenS (.tmp 7)⟩,
    ⟨some 9, none, .bin .add (.const (.int .i64 1)) (.tmp 8)⟩,
    ⟨some 2, none, .mov (.tmp 9)⟩]) (.ret)))
theorem t142 : Try.f142.body.bind (trC e142) = some c142 := by kernel_rfl
theorem r142 : Try.f142.results.toList.mapM (trR Try.prog) = some [.tmp 2] := by kernel_rfl
theorem fn142 {args : List Value} {M : Mem} {post : Value → Mem → Prop} (hl : args.length ≤ 10) (h : VC e142 c142 (fnQ [.tmp 2] post) (initS args 10) M) : Fn Try.prog 142 args M post :=
  Fn.of' (E := e142) Try.func142 t142 rfl r142 mixed hl h
noncomputable def e145 : Env := ⟨Try.prog, [1], 16, []⟩
noncomputable def c145 : C :=
  .seq (.reg [
    ⟨some 1, none, .box true (.tmp 0)⟩,
    ⟨some 2, none, .mov (.const (.bool false))⟩]) (.seq (.reg [
    ⟨some 3, none, .faddr 0 (.tmp 1)⟩,
    ⟨some 4, none, .load true 1 (.tmp 3)⟩,
    ⟨some 5, none, .bin .eql (.tmp 4) (.const (.int .i64 1))⟩,
    ⟨some 6, none, .mov (.tmp 5)⟩,
    ⟨some 7, some (6, true), .faddr 3 (.tmp 1)⟩,
    ⟨some 8, some (6, true), .load true 1 (.tmp 7)⟩,
    ⟨some 9, some (6, true), .bin .eql (.tmp 8) (.const (.int .i64 1))⟩,
    ⟨some 10, some (6, true), .mov (.tmp 9)⟩,
    ⟨some 11, some (10, false), .faddr 3 (.tmp 1)⟩,
    ⟨some 12, some (10, false), .load true 1 (.tmp 11)⟩,
    ⟨some 13, some (10, false), .bin .eql (.tmp 12) (.const (.int .i64 2))⟩,
    ⟨some 14, some (6, true), .pick (.tmp 10) (.const (.bool true)) (.tmp 13)⟩,
    ⟨some 15, none, .pick (.tmp 6) (.tmp 14) (.const (.bool false))⟩,
    ⟨some 2, none, .mov (.tmp 15)⟩]) (.ret))
theorem t145 : Try.f145.body.bind (trC e145) = some c145 := by kernel_rfl
theorem r145 : Try.f145.results.toList.mapM (trR Try.prog) = some [.tmp 2] := by kernel_rfl
theorem fn145 {args : List Value} {M : Mem} {post : Value → Mem → Prop} (hl : args.length ≤ 16) (h : VC e145 c145 (fnQ [.tmp 2] post) (initS args 16) M) : Fn Try.prog 145 args M post :=
  Fn.of' (E := e145) Try.func145 t145 rfl r145 mixed hl h
noncomputable def e71 : Env := ⟨Try.prog, [], 15, []⟩
noncomputable def c71 : C :=
  .seq (.reg [
    ⟨some 6, none, .mov (.const (.bool false))⟩]) (.seq (.reg [
    ⟨some 7, none, .mov (.tmp 0)⟩,
    ⟨some 8, none, .mov (.tmp 1)⟩,
    ⟨some 9, none, .bin .geq (.tmp 7) (.tmp 8)⟩,
    ⟨some 10, none, .mov (.tmp 9)⟩,
    ⟨some 11, some (10, true), .mov (.tmp 0)⟩,
    ⟨some 12, some (10, true), .mov (.tmp 2)⟩,
    ⟨some 13, some (10, true), .bin .leq (.tmp 11) (.tmp 12)⟩,
    ⟨some 14, none, .pick (.tmp 10) (.tmp 13) (.const (.bool false))⟩,
    ⟨some 6, none, .mov (.tmp 14)⟩]) (.ret))
theorem t71 : Try.f71.body.bind (trC e71) = some c71 := by kernel_rfl
theorem r71 : Try.f71.results.toList.mapM (trR Try.prog) = some [.tmp 6] := by kernel_rfl
theorem fn71 {args : List Value} {M : Mem} {post : Value → Mem → Prop} (hl : args.length ≤ 15) (h : VC e71 c71 (fnQ [.tmp 6] post) (initS args 15) M) : Fn Try.prog 71 args M post :=
  Fn.of' (E := e71) Try.func71 t71 rfl r71 mixed hl h
end Go.Proofs.Ytcmllambknfleaa.E
set_option maxRecDepth 100000
set_option linter.unusedVariables false
namespace Go.Proofs.Ytcmllambknfleaa.E
open Go
noncomputable def e37 : Env := ⟨Try.prog, [2, 3], 20, []⟩
noncomputable def c37 : C :=
  .seq (.reg [
    ⟨some 2, none, .box true (.tmp 0)⟩,
    ⟨some 3, none, .box true (.tmp 1)⟩,
    ⟨some 4, none, .mov (.const (.bool false))⟩]) (.seq (.seq (.reg [
    ⟨some 5, none, .faddr 0 (.tmp 2)⟩,
    ⟨some 6, none, .load true 1 (.tmp 5)⟩,
    ⟨some 7, none, .faddr 0 (.tmp 3)⟩,
    ⟨some 8, none, .load true 1 (.tmp 7)⟩,
    ⟨some 9, none, .bin .neq (.tmp 6) (.tmp 8)⟩]) (.cond (.tmp 9) (.seq (.reg [
    ⟨some 4, none, .mov (.const (.bool false))⟩]) (.ret)) (.skip))) (.seq (.seq (.reg [
    ⟨some 10, none, .faddr 1 (.tmp 2)⟩,
    ⟨some 11, none, .load true 1 (.tmp 10)⟩,
    ⟨some 12, none, .faddr 1 (.tmp 3)⟩,
    ⟨some 13, none, .load true 1 (.tmp 12)⟩,
    ⟨some 14, none, .bin .neq (.tmp 11) (.tmp 13)⟩]) (.cond (.tmp 14) (.seq (.reg [
    ⟨some 4, none, .mov (.const (.bool false))⟩]) (.ret)) (.skip))) (.seq (.seq (.reg [
    ⟨some 15, none, .faddr 2 (.tmp 2)⟩,
    ⟨some 16, none, .load true 1 (.tmp 15)⟩,
    ⟨some 17, none, .faddr 2 (.tmp 3)⟩,
    ⟨some 18, none, .load true 1 (.tmp 17)⟩,
    ⟨some 19, none, .bin .neq (.tmp 16) (.tmp 18)⟩]) (.cond (.tmp 19) (.seq (.reg [
    ⟨some 4, none, .mov (.const (.bool false))⟩]) (.ret)) (.skip))) (.seq (.reg [
    ⟨some 4, none, .mov (.const (.bool true))⟩]) (.ret)))))
theorem t37 : Try.f37.body.bind (trC e37) = some c37 := by kernel_rfl
theorem r37 : Try.f37.results.toList.mapM (trR Try.prog) = some [.tmp 4] := by kernel_rfl
theorem fn37 {args : List Value} {M : Mem} {post : Value → Mem → Prop} (hl : args.length ≤ 20) (h : VC e37 c37 (fnQ [.tmp 4] post) (initS args 20) M) : Fn Try.prog 37 args M post :=
  Fn.of' (E := e37) Try.func37 t37 rfl r37 mixed hl h
noncomputable def e72 : Env := ⟨Try.prog, [], 27, [(6, 10)]⟩
noncomputable def c72 : C :=
  .seq (.reg [
    ⟨some 4, none, .mov (.const (.bool false))⟩]) (.seq (.seq (.reg [
    ⟨some 6, none, .mov (.tmp 0)⟩,
    ⟨some 7, none, .lenS (.tmp 6)⟩,
    ⟨some 8, none, .mov (.tmp 1)⟩,
    ⟨some 9, none, .lenS (.tmp 8)⟩,
    ⟨some 10, none, .bin .neq (.tmp 7) (.tmp 9)⟩]) (.cond (.tmp 10) (.seq (.reg [
    ⟨some 4, none, .mov (.const (.bool false))⟩]) (.ret)) (.skip))) (.seq (.seq (.reg [
    ⟨some 5, none, .mov (.const (.int .i64 0))⟩]) (.block 0 (.loop (.seq (.seq (.reg [
    ⟨some 11, none, .mov (.tmp 5)⟩,
    ⟨some 12, none, .mov (.tmp 0)⟩,
    ⟨some 13, none, .lenS (.tmp 12)⟩,
    ⟨some 14, none, .bin .lss (.tmp 11) (.tmp 13)⟩]) (.cond (.tmp 14) (.skip) (.exit 0))) (.seq (.block 1 (.seq (.dreg 10 [
    ⟨some 17, none, .mov (.tmp 0)⟩,
    ⟨some 18, none, .mov (.tmp 5)⟩,
    ⟨some 19, none, .iaddr 3 (.tmp 17) (.tmp 18)⟩,
    ⟨some 20, none, .load false 3 (.tmp 19)⟩,
    ⟨some 21, none, .mov (.tmp 1)⟩,
    ⟨some 22, none, .mov (.tmp 5)⟩,
    ⟨some 23, none, .iaddr 3 (.tmp 21) (.tmp 22)⟩,
    ⟨some 24, none, .load false 3 (.tmp 23)⟩,
    ⟨some 25, none, .qcall 37 [.tmp 20, .tmp 24]⟩,
    ⟨some 26, none, .not (.tmp 25)⟩]) (.cond (.tmp 26) (.seq (.reg [
    ⟨some 4, none, .mov (.const (.bool false))⟩]) (.ret)) (.skip)))) (.reg [
    ⟨some 15, none, .mov (.tmp 5)⟩,
    ⟨some 16, none, .bin .add (.tmp 15) (.const (.int .i64 1))⟩,
    ⟨some 5, none, .mov (.tmp 16)⟩])))))) (.seq (.reg [
    ⟨some 4, none, .mov (.const (.bool true))⟩]) (.ret))))
theorem t72 : Try.f72.body.bind (trC e72) = some c72 := by kernel_rfl
theorem r72 : Try.f72.results.toList.mapM (trR Try.prog) = some [.tmp 4] := by kernel_rfl
theorem fn72 {args : List Value} {M : Mem} {post : Value → Mem → Prop} (hl : args.length ≤ 27) (h : VC e72 c72 (fnQ [.tmp 4] post) (initS args 27) M) : Fn Try.prog 72 args M post :=
  Fn.of' (E := e72) Try.func72 t72 rfl r72 mixed hl h
noncomputable def e176 : Env := ⟨Try.prog, [2, 3], 17, []⟩
noncomputable def c176 : C :=
  .seq (.reg [
    ⟨some 2, none, .box true (.tmp 0)⟩,
    ⟨some 3, none, .box true (.tmp 1)⟩,
    ⟨some 4, none, .mov (.const (.bool false))⟩]) (.seq (.seq (.reg [
    ⟨some 5, none, .faddr 0 (.tmp 2)⟩,
    ⟨some 6, none, .load false 3 (.tmp 5)⟩,
    ⟨some 7, none, .faddr 0 (.tmp 3)⟩,
    ⟨some 8, none, .load false 3 (.tmp 7)⟩,
    ⟨some 9, none, .call 37 [.tmp 6, .tmp 8]⟩,
    ⟨some 10, none, .not (.tmp 9)⟩]) (.cond (.tmp 10) (.seq (.reg [
    ⟨some 4, none, .mov (.const (.bool false))⟩]) (.ret)) (.skip))) (.seq (.seq (.reg [
    ⟨some 11, none, .faddr 3 (.tmp 2)⟩,
    ⟨some 12, none, .load false 3 (.tmp 11)⟩,
    ⟨some 13, none, .faddr 3 (.tmp 3)⟩,
    ⟨some 14, none, .load false 3 (.tmp 13)⟩,
    ⟨some 15, none, .call 37 [.tmp 12, .tmp 14]⟩,
    ⟨some 16, none, .not (.tmp 15)⟩]) (.cond (.tmp 16) (.seq (.reg [
    ⟨some 4, none, .mov (.const (.bool false))⟩]) (.ret)) (.skip))) (.seq (.reg [
    ⟨some 4, none, .mov (.const (.bool true))⟩]) (.ret))))
theorem t176 : Try.f176.body.bind (trC e176) = some c176 := by kernel_rfl
theorem r176 : Try.f176.results.toList.mapM (trR Try.prog) = some [.tmp 4] := by kernel_rfl
theorem fn176 {args : List Value} {M : Mem} {post : Value → Mem → Prop} (hl : args.length ≤ 17) (h : VC e176 c176 (fnQ [.tmp 4] post) (initS args 17) M) : Fn Try.prog 176 args M post :=
  Fn.of' (E := e176) Try.func176 t176 rfl r176 mixed hl h
noncomputable def e163 : Env := ⟨Try.prog, [], 27, [(6, 10)]⟩
noncomputable def c163 : C :=
  .seq (.reg [
    ⟨some 4, none, .mov (.const (.bool false))⟩]) (.seq (.seq (.reg [
    ⟨some 6, none, .mov (.tmp 0)⟩,
    ⟨some 7, none, .lenS (.tmp 6)⟩,
    ⟨some 8, none, .mov (.tmp 1)⟩,
    ⟨some 9, none, .lenS (.tmp 8)⟩,
    ⟨some 10, none, .bin .neq (.tmp 7) (.tmp 9)⟩]) (.cond (.tmp 10) (.seq (.reg [
    ⟨some 4, none, .mov (.const (.bool false))⟩]) (.ret)) (.skip))) (.seq (.seq (.reg [
    ⟨some 5, none, .mov (.const (.int .i64 0))⟩]) (.block 0 (.loop (.seq (.seq (.reg [
    ⟨some 11, none, .mov (.tmp 5)⟩,
    ⟨some 12, none, .mov (.tmp 0)⟩,
    ⟨some 13, none, .lenS (.tmp 12)⟩,
    ⟨some 14, none, .bin .lss (.tmp 11) (.tmp 13)⟩]) (.cond (.tmp 14) (.skip) (.exit 0))) (.seq (.block 1 (.seq (.dreg 10 [
    ⟨some 17, none, .mov (.tmp 0)⟩,
    ⟨some 18, none, .mov (.tmp 5)⟩,
    ⟨some 19, none, .iaddr 6 (.tmp 17) (.tmp 18)⟩,
    ⟨some 20, none, .load false 6 (.tmp 19)⟩,
    ⟨some 21, none, .mov (.tmp 1)⟩,
    ⟨some 22, none, .mov (.tmp 5)⟩,
    ⟨some 23, none, .iaddr 6 (.tmp 21) (.tmp 22)⟩,
    ⟨some 24, none, .load false 6 (.tmp 23)⟩,
    ⟨some 25, none, .qcall 176 [.tmp 20, .tmp 24]⟩,
    ⟨some 26, none, .not (.tmp 25)⟩]) (.cond (.tmp 26) (.seq (.reg [
    ⟨some 4, none, .mov (.const (.bool false))⟩]) (.ret)) (.skip)))) (.reg [
    ⟨some 15, none, .mov (.tmp 5)⟩,
    ⟨some 16, none, .bin .add (.tmp 15) (.const (.int .i64 1))⟩,
    ⟨some 5, none, .mov (.tmp 16)⟩])))))) (.seq (.reg [
    ⟨some 4, none, .mov (.const (.bool true))⟩]) (.ret))))
theorem t163 : Try.f163.body.bind (trC e163) = some c163 := by kernel_rfl
theorem r163 : Try.f163.results.toList.mapM (trR Try.prog) = some [.tmp 4] := by kernel_rfl
theorem fn163 {args : List Value} {M : Mem} {post : Value → Mem → Prop} (hl : args.length ≤ 27) (h : VC e163 c163 (fnQ [.tmp 4] post) (initS args 27) M) : Fn Try.prog 163 args M post :=
  Fn.of' (E := e163) Try.func163 t163 rfl r163 mixed hl h
noncomputable def e130 : Env := ⟨Try.prog, [2, 3], 46, []⟩
noncomputable def c130 : C :=
  .seq (.reg [
    ⟨some 2, none, .box true (.tmp 0)⟩,
    ⟨some 3, none, .box true (.tmp 1)⟩,
    ⟨some 4, none, .mov (.const (.bool false))⟩]) (.seq (.seq (.reg [
    ⟨some 5, none, .faddr 0 (.tmp 2)⟩,
    ⟨some 6, none, .load true 1 (.tmp 5)⟩,
    ⟨some 7, none, .faddr 0 (.tmp 3)⟩,
    ⟨some 8, none, .load true 1 (.tmp 7)⟩,
    ⟨some 9, none, .bin .neq (.tmp 6) (.tmp 8)⟩]) (.cond (.tmp 9) (.seq (.reg [
    ⟨some 4, none, .mov (.const (.bool false))⟩]) (.ret)) (.skip))) (.seq (.seq (.reg [
    ⟨some 10, none, .faddr 1 (.tmp 2)⟩,
    ⟨some 11, none, .load true 1 (.tmp 10)⟩,
    ⟨some 12, none, .faddr 1 (.tmp 3)⟩,
    ⟨some 13, none, .load true 1 (.tmp 12)⟩,
    ⟨some 14, none, .bin .neq (.tmp 11) (.tmp 13)⟩]) (.cond (.tmp 14) (.seq (.reg [
    ⟨some 4, none, .mov (.const (.bool false))⟩]) (.ret)) (.skip))) (.seq (.seq (.reg [
    ⟨some 15, none, .faddr 2 (.tmp 2)⟩,
    ⟨some 16, none, .load true 1 (.tmp 15)⟩,
    ⟨some 17, none, .faddr 2 (.tmp 3)⟩,
    ⟨some 18, none, .load true 1 (.tmp 17)⟩,
    ⟨some 19, none, .bin .neq (.tmp 16) (.tmp 18)⟩]) (.cond (.tmp 19) (.seq (.reg [
    ⟨some 4, none, .mov (.const (.bool false))⟩]) (.ret)) (.skip))) (.seq (.seq (.reg [
    ⟨some 20, none, .faddr 3 (.tmp 2)⟩,
    ⟨some 21, none, .load true 1 (.tmp 20)⟩,
    ⟨some 22, none, .faddr 3 (.tmp 3)⟩,
    ⟨some 23, none, .load true 1 (.tmp 22)⟩,
    ⟨some 24, none, .bin .neq (.tmp 21) (.tmp 23)⟩]) (.cond (.tmp 24) (.seq (.reg [
    ⟨some 4, none, .mov (.const (.bool false))⟩]) (.ret)) (.skip))) (.seq (.seq (.reg [
    ⟨some 25, none, .faddr 4 (.tmp 2)⟩,
    ⟨some 26, none, .load true 1 (.tmp 25)⟩,
    ⟨some 27, none, .faddr 4 (.tmp 3)⟩,
    ⟨some 28, none, .load true 1 (.tmp 27)⟩,
    ⟨some 29, none, .bin .neq (.tmp 26) (.tmp 28)⟩]) (.cond (.tmp 29) (.seq (.reg [
    ⟨some 4, none, .mov (.const (.bool false))⟩]) (.ret)) (.skip))) (.seq (.seq (.reg [
    ⟨some 30, none, .faddr 5 (.tmp 2)⟩,
    ⟨some 31, none, .load true 1 (.tmp 30)⟩,
    ⟨some 32, none, .faddr 5 (.tmp 3)⟩,
    ⟨some 33, none, .load true 1 (.tmp 32)⟩,
    ⟨some 34, none, .bin .neq (.tmp 31) (.tmp 33)⟩]) (.cond (.tmp 34) (.seq (.reg [
    ⟨some 4, none, .mov (.const (.bool false))⟩]) (.ret)) (.skip))) (.seq (.seq (.reg [
    ⟨some 35, none, .faddr 6 (.tmp 2)⟩,
    ⟨some 36, none, .load true 1 (.tmp 35)⟩,
    ⟨some 37, none, .faddr 6 (.tmp 3)⟩,
    ⟨some 38, none, .load true 1 (.tmp 37)⟩,
    ⟨some 39, none, .bin .neq (.tmp 36) (.tmp 38)⟩]) (.cond (.tmp 39) (.seq (.reg [
    ⟨some 4, none, .mov (.const (.bool false))⟩]) (.ret)) (.skip))) (.seq (.seq (.reg [
    ⟨some 40, none, .faddr 7 (.tmp 2)⟩,
    ⟨some 41, none, .load true 1 (.tmp 40)⟩,
    ⟨some 42, none, .faddr 7 (.tmp 3)⟩,
    ⟨some 43, none, .load true 1 (.tmp 42)⟩,
    ⟨some 44, none, .call 163 [.tmp 41, .tmp 43]⟩,
    ⟨some 45, none, .not (.tmp 44)⟩]) (.cond (.tmp 45) (.seq (.reg [
    ⟨some 4, none, .mov (.const (.bool false))⟩]) (.ret)) (.skip))) (.seq (.reg [
    ⟨some 4, none, .mov (.const (.bool true))⟩]) (.ret))))))))))
theorem t130 : Try.f130.body.bind (trC e130) = some c130 := by kernel_rfl
theorem r130 : Try.f130.results.toList.mapM (trR Try.prog) = some [.tmp 4] := by kernel_rfl
theorem fn130 {args : List Value} {M : Mem} {post : Value → Mem → Prop} (hl : args.length ≤ 46) (h : VC e130 c130 (fnQ [.tmp 4] post) (initS args 46) M) : Fn Try.prog 130 args M post :=
  Fn.of' (E := e130) Try.func130 t130 rfl r130 mixed hl h
noncomputable def e73 : Env := ⟨Try.prog, [], 27, [(6, 10)]⟩
noncomputable def c73 : C :=
  .seq (.reg [
    ⟨some 4, none, .mov (.const (.bool false))⟩]) (.seq (.seq (.reg [
    ⟨some 6, none, .mov (.tmp 0)⟩,
    ⟨some 7, none, .lenS (.tmp 6)⟩,
    ⟨some 8, none, .mov (.tmp 1)⟩,
    ⟨some 9, none, .lenS (.tmp 8)⟩,
    ⟨some 10, none, .bin .neq (.tmp 7) (.tmp 9)⟩]) (.cond (.tmp 10) (.seq (.reg [
    ⟨some 4, none, .mov (.const (.bool false))⟩]) (.ret)) (.skip))) (.seq (.seq (.reg [
    ⟨some 5, none, .mov (.const (.int .i64 0))⟩]) (.block 0 (.loop (.seq (.seq (.reg [
    ⟨some 11, none, .mov (.tmp 5)⟩,
    ⟨some 12, none, .mov (.tmp 0)⟩,
    ⟨some 13, none, .lenS (.tmp 12)⟩,
    ⟨some 14, none, .bin .lss (.tmp 11) (.tmp 13)⟩]) (.cond (.tmp 14) (.skip) (.exit 0))) (.seq (.block 1 (.seq (.dreg 10 [
    ⟨some 17, none, .mov (.tmp 0)⟩,
    ⟨some 18, none, .mov (.tmp 5)⟩,
    ⟨some 19, none, .iaddr 8 (.tmp 17) (.tmp 18)⟩,
    ⟨some 20, none, .load false 8 (.tmp 19)⟩,
    ⟨some 21, none, .mov (.tmp 1)⟩,
    ⟨some 22, none, .mov (.tmp 5)⟩,
    ⟨some 23, none, .iaddr 8 (.tmp 21) (.tmp 22)⟩,
    ⟨some 24, none, .load false 8 (.tmp 23)⟩,
    ⟨some 25, none, .qcall 130 [.tmp 20, .tmp 24]⟩,
    ⟨some 26, none, .not (.tmp 25)⟩]) (.cond (.tmp 26) (.seq (.reg [
    ⟨some 4, none, .mov (.const (.bool false))⟩]) (.ret)) (.skip)))) (.reg [
    ⟨some 15, none, .mov (.tmp 5)⟩,
    ⟨some 16, none, .bin .add (.tmp 15) (.const (.int .i64 1))⟩,
    ⟨some 5, none, .mov (.tmp 16)⟩])))))) (.seq (.reg [
    ⟨some 4, none, .mov (.const (.bool true))⟩]) (.ret))))
theorem t73 : Try.f73.body.bind (trC e73) = some c73 := by kernel_rfl
theorem r73 : Try.f73.results.toList.mapM (trR Try.prog) = some [.tmp 4] := by kernel_rfl
theorem fn73 {args : List Value} {M : Mem} {post : Value → Mem → Prop} (hl : args.length ≤ 27) (h : VC e73 c73 (fnQ [.tmp 4] post) (initS args 27) M) : Fn Try.prog 73 args M post :=
  Fn.of' (E := e73) Try.func73 t73 rfl r73 mixed hl h
noncomputable def e74 : Env := ⟨Try.prog, [], 26, [(6, 9)]⟩
noncomputable def c74 : C :=
  .seq (.reg [
    ⟨some 4, none, .mov (.const (.bool false))⟩]) (.seq (.seq (.reg [
    ⟨some 6, none, .mov (.tmp 0)⟩,
    ⟨some 7, none, .lenS (.tmp 6)⟩,
    ⟨some 8, none, .mov (.tmp 1)⟩,
    ⟨some 9, none, .lenS (.tmp 8)⟩,
    ⟨some 10, none, .bin .neq (.tmp 7) (.tmp 9)⟩]) (.cond (.tmp 10) (.seq (.reg [
    ⟨some 4, none, .mov (.const (.bool false))⟩]) (.ret)) (.skip))) (.seq (.seq (.reg [
    ⟨some 5, none, .mov (.const (.int .i64 0))⟩]) (.block 0 (.loop (.seq (.seq (.reg [
    ⟨some 11, none, .mov (.tmp 5)⟩,
    ⟨some 12, none, .mov (.tmp 0)⟩,
    ⟨some 13, none, .lenS (.tmp 12)⟩,
    ⟨some 14, none, .bin .lss (.tmp 11) (.tmp 13)⟩]) (.cond (.tmp 14) (.skip) (.exit 0))) (.seq (.block 1 (.seq (.dreg 9 [
    ⟨some 17, none, .mov (.tmp 0)⟩,
    ⟨some 18, none, .mov (.tmp 5)⟩,
    ⟨some 19, none, .iaddr 1 (.tmp 17) (.tmp 18)⟩,
    ⟨some 20, none, .load true 1 (.tmp 19)⟩,
    ⟨some 21, none, .mov (.tmp 1)⟩,
    ⟨some 22, none, .mov (.tmp 5)⟩,
    ⟨some 23, none, .iaddr 1 (.tmp 21) (.tmp 22)⟩,
    ⟨some 24, none, .load true 1 (.tmp 23)⟩,
    ⟨some 25, none, .bin .neq (.tmp 20) (.tmp 24)⟩]) (.cond (.tmp 25) (.seq (.reg [
    ⟨some 4, none, .mov (.const (.bool false))⟩]) (.ret)) (.skip)))) (.reg [
    ⟨some 15, none, .mov (.tmp 5)⟩,
    ⟨some 16, none, .bin .add (.tmp 15) (.const (.int .i64 1))⟩,
    ⟨some 5, none, .mov (.tmp 16)⟩])))))) (.seq (.reg [
    ⟨some 4, none, .mov (.const (.bool true))⟩]) (.ret))))
theorem t74 : Try.f74.body.bind (trC e74) = some c74 := by kernel_rfl
theorem r74 : Try.f74.results.toList.mapM (trR Try.prog) = some [.tmp 4] := by kernel_rfl
theorem fn74 {args : List Value} {M : Mem} {post : Value → Mem → Prop} (hl : args.length ≤ 26) (h : VC e74 c74 (fnQ [.tmp 4] post) (initS args 26) M) : Fn Try.prog 74 args M post :=
  Fn.of' (E := e74) Try.func74 t74 rfl r74 mixed hl h
noncomputable def e27 : Env := ⟨Try.prog, [2, 3], 73, []⟩
noncomputable def c27 : C :=
  .seq (.reg [
    ⟨some 2, none, .box true (.tmp 0)⟩,
    ⟨some 3, none, .box true (.tmp 1)⟩,
    ⟨some 4, none, .mov (.const (.bool false))⟩]) (.seq (.seq (.reg [
    ⟨some 5, none, .faddr 0 (.tmp 2)⟩,
    ⟨some 6, none, .load true 1 (.tmp 5)⟩,
    ⟨some 7, none, .faddr 0 (.tmp 3)⟩,
    ⟨some 8, none, .load true 1 (.tmp 7)⟩,
    ⟨some 9, none, .bin .neq (.tmp 6) (.tmp 8)⟩]) (.cond (.tmp 9) (.seq (.reg [
    ⟨some 4, none, .mov (.const (.bool false))⟩]) (.ret)) (.skip))) (.seq (.seq (.reg [
    ⟨some 10, none, .faddr 1 (.tmp 2)⟩,
    ⟨some 11, none, .load true 1 (.tmp 10)⟩,
    ⟨some 12, none, .faddr 1 (.tmp 3)⟩,
    ⟨some 13, none, .load true 1 (.tmp 12)⟩,
    ⟨some 14, none, .bin .neq (.tmp 11) (.tmp 13)⟩]) (.cond (.tmp 14) (.seq (.reg [
    ⟨some 4, none, .mov (.const (.bool false))⟩]) (.ret)) (.skip))) (.seq (.seq (.reg [
    ⟨some 15, none, .faddr 2 (.tmp 2)⟩,
    ⟨some 16, none, .load true 1 (.tmp 15)⟩,
    ⟨some 17, none, .faddr 2 (.tmp 3)⟩,
    ⟨some 18, none, .load true 1 (.tmp 17)⟩,
    ⟨some 19, none, .bin .neq (.tmp 16) (.tmp 18)⟩]) (.cond (.tmp 19) (.seq (.reg [
    ⟨some 4, none, .mov (.const (.bool false))⟩]) (.ret)) (.skip))) (.seq (.seq (.reg [
    ⟨some 20, none, .faddr 3 (.tmp 2)⟩,
    ⟨some 21, none, .load true 1 (.tmp 20)⟩,
    ⟨some 22, none, .faddr 3 (.tmp 3)⟩,
    ⟨some 23, none, .load true 1 (.tmp 22)⟩,
    ⟨some 24, none, .call 72 [.tmp 21, .tmp 23]⟩,
    ⟨some 25, none, .not (.tmp 24)⟩]) (.cond (.tmp 25) (.seq (.reg [
    ⟨some 4, none, .mov (.const (.bool false))⟩]) (.ret)) (.skip))) (.seq (.seq (.reg [
    ⟨some 26, none, .faddr 4 (.tmp 2)⟩,
    ⟨some 27, none, .load true 1 (.tmp 26)⟩,
    ⟨some 28, none, .faddr 4 (.tmp 3)⟩,
    ⟨some 29, none, .load true 1 (.tmp 28)⟩,
    ⟨some 30, none, .call 73 [.tmp 27, .tmp 29]⟩,
    ⟨some 31, none, .not (.tmp 30)⟩]) (.cond (.tmp 31) (.seq (.reg [
    ⟨some 4, none, .mov (.const (.bool false))⟩]) (.ret)) (.skip))) (.seq (.seq (.reg [
    ⟨some 32, none, .faddr 5 (.tmp 2)⟩,
    ⟨some 33, none, .load true 1 (.tmp 32)⟩,
    ⟨some 34, none, .faddr 5 (.tmp 3)⟩,
    ⟨some 35, none, .load true 1 (.tmp 34)⟩,
    ⟨some 36, none, .bin .neq (.tmp 33) (.tmp 35)⟩]) (.cond (.tmp 36) (.seq (.reg [
    ⟨some 4, none, .mov (.const (.bool false))⟩]) (.ret)) (.skip))) (.seq (.seq (.reg [
    ⟨some 37, none, .faddr 6 (.tmp 2)⟩,
    ⟨some 38, none, .load true 1 (.tmp 37)⟩,
    ⟨some 39, none, .faddr 6 (.tmp 3)⟩,
    ⟨some 40, none, .load true 1 (.tmp 39)⟩,
    ⟨some 41, none, .bin .neq (.tmp 38) (.tmp 40)⟩]) (.cond (.tmp 41) (.seq (.reg [
    ⟨some 4, none, .mov (.const (.bool false))⟩]) (.ret)) (.skip))) (.seq (.seq (.reg [
    ⟨some 42, none, .faddr 7 (.tmp 2)⟩,
    ⟨some 43, none, .load true 1 (.tmp 42)⟩,
    ⟨some 44, none, .faddr 7 (.tmp 3)⟩,
    ⟨some 45, none, .load true 1 (.tmp 44)⟩,
    ⟨some 46, none, .bin .neq (.tmp 43) (.tmp 45)⟩]) (.cond (.tmp 46) (.seq (.reg [
    ⟨some 4, none, .mov (.const (.bool false))⟩]) (.ret)) (.skip))) (.seq (.seq (.reg [
    ⟨some 47, none, .faddr 8 (.tmp 2)⟩,
    ⟨some 48, none, .load true 1 (.tmp 47)⟩,
    ⟨some 49, none, .faddr 8 (.tmp 3)⟩,
    ⟨some 50, none, .load true 1 (.tmp 49)⟩,
    ⟨some 51, none, .call 74 [.tmp 48, .tmp 50]⟩,
    ⟨some 52, none, .not (.tmp 51)⟩]) (.cond (.tmp 52) (.seq (.reg [
    ⟨some 4, none, .mov (.const (.bool false))⟩]) (.ret)) (.skip))) (.seq (.seq (.reg [
    ⟨some 53, none, .faddr 9 (.tmp 2)⟩,
    ⟨some 54, none, .load true 1 (.tmp 53)⟩,
    ⟨some 55, none, .faddr 9 (.tmp 3)⟩,
    ⟨some 56, none, .load true 1 (.tmp 55)⟩,
    ⟨some 57, none, .bin .neq (.tmp 54) (.tmp 56)⟩]) (.cond (.tmp 57) (.seq (.reg [
    ⟨some 4, none, .mov (.const (.bool false))⟩]) (.ret)) (.skip))) (.seq (.seq (.reg [
    ⟨some 58, none, .faddr 10 (.tmp 2)⟩,
    ⟨some 59, none, .load true 1 (.tmp 58)⟩,
    ⟨some 60, none, .faddr 10 (.tmp 3)⟩,
    ⟨some 61, none, .load true 1 (.tmp 60)⟩,
    ⟨some 62, none, .bin .neq (.tmp 59) (.tmp 61)⟩]) (.cond (.tmp 62) (.seq (.reg [
    ⟨some 4, none, .mov (.const (.bool false))⟩]) (.ret)) (.skip))) (.seq (.seq (.reg [
    ⟨some 63, none, .faddr 11 (.tmp 2)⟩,
    ⟨some 64, none, .load true 1 (.tmp 63)⟩,
    ⟨some 65, none, .faddr 11 (.tmp 3)⟩,
    ⟨some 66, none, .load true 1 (.tmp 65)⟩,
    ⟨some 67, none, .bin .neq (.tmp 64) (.tmp 66)⟩]) (.cond (.tmp 67) (.seq (.reg [
    ⟨some 4, none, .mov (.const (.bool false))⟩]) (.ret)) (.skip))) (.seq (.seq (.reg [
    ⟨some 68, none, .faddr 12 (.tmp 2)⟩,
    ⟨some 69, none, .load true 1 (.tmp 68)⟩,
    ⟨some 70, none, .faddr 12 (.tmp 3)⟩,
    ⟨some 71, none, .load true 1 (.tmp 70)⟩,
    ⟨some 72, none, .bin .neq (.tmp 69) (.tmp 71)⟩]) (.cond (.tmp 72) (.seq (.reg [
    ⟨some 4, none, .mov (.const (.bool false))⟩]) (.ret)) (.skip))) (.seq (.reg [
    ⟨some 4, none, .mov (.const (.bool true))⟩]) (.ret)))))))))))))))
theorem t27 : Try.f27.body.bind (trC e27) = some c27 := by kernel_rfl
theorem r27 : Try.f27.results.toList.mapM (trR Try.prog) = some [.tmp 4] := by kernel_rfl
theorem fn27 {args : List Value} {M : Mem} {post : Value → Mem → Prop} (hl : args.length ≤ 73) (h : VC e27 c27 (fnQ [.tmp 4] post) (initS args 73) M) : Fn Try.prog 27 args M post :=
  Fn.of' (E := e27) Try.func27 t27 rfl r27 mixed hl h
end Go.Proofs.Ytcmllambknfleaa.E
set_option linter.unusedVariables false
set_option linter.unusedSimpArgs false
set_option maxRecDepth 100000
namespace Go.Proofs.Ytcmllambknfleaa.E
open Go
open Classical
def wa (w : Word) : Value := .agg (wv w).toArray
def pa (p : Pair) : Value := .agg (pv p).toArray
def ca (x : CS) : Value := .agg (csv x).toArray
def aa (a : Act) : Value := .agg (av a).toArray
theorem eqWord_q {M : Mem} {a b : Word} : Qt Try.prog 37 [wa a, wa b] M (.bool (decide (a = b))) := by
  refine fn37 (by simp) ?_
  repeat' (first
    | (refine vl_pure rfl ?_)
    | (refine vl_nil ?_)
    | (refine VC.seq ?_)
    | (refine VC.regV ?_)
    | (refine vl_box rfl rfl ?_)
    | (refine VC.ret ?_)
    | (refine VC.skip ?_)
    | (refine seqQ_n ?_)
    | (refine seqQ_r ?_)
    | (refine VC.cond _ rfl (fun hb => ?_) (fun hb => ?_)))
  all_goals (refine fnQ_r rfl (Mem.le_refl _) (q_end ?_))
  all_goals (cases a; cases b; simp_all)
theorem eqPair_q {M : Mem} {a b : Pair} : Qt Try.prog 176 [pa a, pa b] M (.bool (decide (a = b))) := by
  refine fn176 (by simp) ?_
  repeat' (first
    | (refine vl_pure rfl ?_)
    | (refine vl_nil ?_)
    | (refine VC.seq ?_)
    | (refine VC.regV ?_)
    | (refine vl_box rfl rfl ?_)
    | (refine vl_cq rfl (eqWord_q (a := a.key) (b := b.key)) ?_)
    | (refine vl_cq rfl (eqWord_q (a := a.val) (b := b.val)) ?_)
    | (refine VC.ret ?_)
    | (refine VC.skip ?_)
    | (refine seqQ_n ?_)
    | (refine seqQ_r ?_)
    | (refine VC.cond _ rfl (fun hb => ?_) (fun hb => ?_)))
  all_goals (refine fnQ_r rfl (Mem.le_refl _) (q_end ?_))
  all_goals (cases a; cases b; simp_all)
theorem eqWordS_q {M : Mem} {va vb : Value} {xs ys : List Word} (ha : Sl M 3 wv va xs) (hb : Sl M 3 wv vb ys) : Qt Try.prog 72 [va, vb] M (.bool (decide (xs = ys))) := by
  obtain ⟨aa, ca, ea⟩ := ha.len
  obtain ⟨ab, cb, eb⟩ := hb.len
  refine fn72 (by simp) ?_
  subst ea; subst eb
  repeat' (first
    | (refine vl_pure rfl ?_)
    | (refine vl_nil ?_)
    | (refine VC.seq ?_)
    | (refine VC.regV ?_)
    | (refine seqQ_n ?_))
  refine VC.cond _ rfl (fun h => ?_) (fun h => ?_)
  · repeat' (first
      | (refine vl_pure rfl ?_)
      | (refine vl_nil ?_)
      | (refine VC.seq ?_)
      | (refine VC.regV ?_)
      | (refine VC.ret ?_)
      | (refine seqQ_r ?_))
    refine fnQ_r rfl (Mem.le_refl _) (q_end ?_)
    have : xs ≠ ys := fun e => by have e2 := congrArg List.length e; first | (simp only [List.length_map] at e2; simp [e2] at h) | (simp [e2] at h)
    simp [this]
  have hbd := ha.bound
  have hl : xs.length = ys.length := Int.ofNat_inj.1 (by simpa using h)
  repeat' (first
    | (refine vl_pure rfl ?_)
    | (refine vl_nil ?_)
    | (refine VC.seq ?_)
    | (refine VC.regV ?_)
    | (refine VC.block ?_)
    | (refine VC.skip ?_))
  refine VC.loop (α := Nat) (fun i => [(0, .v (.slice aa xs.length ca)), (1, .v (.slice ab ys.length cb)), (5, .v (.int .i64 i))]) (fun k i M' => k = xs.length - i ∧ i ≤ xs.length ∧ M' = M ∧ xs.take i = ys.take i)
    ⟨_, 0, M, ⟨rfl, rfl, rfl, trivial⟩, Mem.le_refl _, rfl, Nat.zero_le _, rfl, by simp⟩ ?_
  rintro k i M' ⟨rfl, hi, rfl, hpre⟩
  repeat' (first
    | (refine vl_pure rfl ?_)
    | (refine vl_nil ?_)
    | (refine VC.seq ?_)
    | (refine VC.regV ?_)
    | (refine seqQ_n ?_))
  refine VC.cond _ rfl (fun h => ?_) (fun h => ?_)
  · have hi : i < xs.length := by simpa using h
    obtain ⟨x, gx⟩ : ∃ x, xs[i]? = some x := ⟨_, List.getElem?_eq_getElem hi⟩
    obtain ⟨y, gy⟩ : ∃ y, ys[i]? = some y := ⟨_, List.getElem?_eq_getElem (hl ▸ hi)⟩
    obtain ⟨b1, o1, rfl, h1⟩ := ha.at2 (fun _ => rfl) gx
    obtain ⟨b2, o2, rfl, h2⟩ := hb.at2 (fun _ => rfl) gy
    repeat' (first
      | (refine vl_pure rfl ?_)
      | (refine vl_nil ?_)
      | (refine VC.seq ?_)
      | (refine vl_idx rfl rfl (by omega) ?_)
      | (refine vl_lds rfl (by first | exact h1 | exact h2) ?_)
      | (refine vl_q rfl (eqWord_q) ?_)
      | (refine VC.dregV ?_)
      | (refine VC.block ?_)
      | (refine VC.skip ?_)
      | (refine seqQ_n ?_))
    refine VC.cond _ rfl (fun h => ?_) (fun h => ?_)
    · repeat' (first
        | (refine vl_pure rfl ?_)
        | (refine vl_nil ?_)
        | (refine VC.seq ?_)
        | (refine VC.regV ?_)
        | (refine VC.ret ?_)
        | (refine seqQ_r ?_)
        | (refine blkQ_r ?_))
      refine fnQ_r rfl (Mem.le_refl _) (q_end ?_)
      have : xs ≠ ys := fun e => by subst e; rw [gx] at gy; cases gy; simp at h
      simp [this]
    · have hxy : x = y := by simpa using h
      repeat' (first
        | (refine vl_add rfl rfl (by omega) ?_)
        | (refine vl_pure rfl ?_)
        | (refine vl_nil ?_)
        | (refine VC.regV ?_)
        | (refine VC.skip ?_)
        | (refine seqQ_n ?_))
      refine ⟨_, i + 1, _, ?_, ⟨rfl, rfl, rfl, trivial⟩, Mem.le_refl _, rfl, hi, rfl, ?_⟩
      · omega
      · rw [List.take_add_one, List.take_add_one, hpre, gx, gy, hxy]
  · have hi : ¬ i < xs.length := by simpa using h
    repeat' (first
      | (refine vl_pure rfl ?_)
      | (refine vl_nil ?_)
      | (refine VC.seq ?_)
      | (refine VC.regV ?_)
      | (refine VC.ret ?_)
      | (refine VC.exit ?_))
    refine fnQ_r rfl (Mem.le_refl _) (q_end ?_)
    have hxy : xs = ys := by
      have e : i = xs.length := by omega
      subst e
      rw [List.take_of_length_le (by simp), List.take_of_length_le (by simp [hl])] at hpre
      exact hpre
    simp [hxy]

theorem eqPairS_q {M : Mem} {va vb : Value} {xs ys : List Pair} (ha : Sl M 6 pv va xs) (hb : Sl M 6 pv vb ys) : Qt Try.prog 163 [va, vb] M (.bool (decide (xs = ys))) := by
  obtain ⟨aa, ca, ea⟩ := ha.len
  obtain ⟨ab, cb, eb⟩ := hb.len
  refine fn163 (by simp) ?_
  subst ea; subst eb
  repeat' (first
    | (refine vl_pure rfl ?_)
    | (refine vl_nil ?_)
    | (refine VC.seq ?_)
    | (refine VC.regV ?_)
    | (refine seqQ_n ?_))
  refine VC.cond _ rfl (fun h => ?_) (fun h => ?_)
  · repeat' (first
      | (refine vl_pure rfl ?_)
      | (refine vl_nil ?_)
      | (refine VC.seq ?_)
      | (refine VC.regV ?_)
      | (refine VC.ret ?_)
      | (refine seqQ_r ?_))
    refine fnQ_r rfl (Mem.le_refl _) (q_end ?_)
    have : xs ≠ ys := fun e => by have e2 := congrArg List.length e; first | (simp only [List.length_map] at e2; simp [e2] at h) | (simp [e2] at h)
    simp [this]
  have hbd := ha.bound
  have hl : xs.length = ys.length := Int.ofNat_inj.1 (by simpa using h)
  repeat' (first
    | (refine vl_pure rfl ?_)
    | (refine vl_nil ?_)
    | (refine VC.seq ?_)
    | (refine VC.regV ?_)
    | (refine VC.block ?_)
    | (refine VC.skip ?_))
  refine VC.loop (α := Nat) (fun i => [(0, .v (.slice aa xs.length ca)), (1, .v (.slice ab ys.length cb)), (5, .v (.int .i64 i))]) (fun k i M' => k = xs.length - i ∧ i ≤ xs.length ∧ M' = M ∧ xs.take i = ys.take i)
    ⟨_, 0, M, ⟨rfl, rfl, rfl, trivial⟩, Mem.le_refl _, rfl, Nat.zero_le _, rfl, by simp⟩ ?_
  rintro k i M' ⟨rfl, hi, rfl, hpre⟩
  repeat' (first
    | (refine vl_pure rfl ?_)
    | (refine vl_nil ?_)
    | (refine VC.seq ?_)
    | (refine VC.regV ?_)
    | (refine seqQ_n ?_))
  refine VC.cond _ rfl (fun h => ?_) (fun h => ?_)
  · have hi : i < xs.length := by simpa using h
    obtain ⟨x, gx⟩ : ∃ x, xs[i]? = some x := ⟨_, List.getElem?_eq_getElem hi⟩
    obtain ⟨y, gy⟩ : ∃ y, ys[i]? = some y := ⟨_, List.getElem?_eq_getElem (hl ▸ hi)⟩
    obtain ⟨b1, o1, rfl, h1⟩ := ha.at2 (fun _ => rfl) gx
    obtain ⟨b2, o2, rfl, h2⟩ := hb.at2 (fun _ => rfl) gy
    repeat' (first
      | (refine vl_pure rfl ?_)
      | (refine vl_nil ?_)
      | (refine VC.seq ?_)
      | (refine vl_idx rfl rfl (by omega) ?_)
      | (refine vl_lds rfl (by first | exact h1 | exact h2) ?_)
      | (refine vl_q rfl (eqPair_q) ?_)
      | (refine VC.dregV ?_)
      | (refine VC.block ?_)
      | (refine VC.skip ?_)
      | (refine seqQ_n ?_))
    refine VC.cond _ rfl (fun h => ?_) (fun h => ?_)
    · repeat' (first
        | (refine vl_pure rfl ?_)
        | (refine vl_nil ?_)
        | (refine VC.seq ?_)
        | (refine VC.regV ?_)
        | (refine VC.ret ?_)
        | (refine seqQ_r ?_)
        | (refine blkQ_r ?_))
      refine fnQ_r rfl (Mem.le_refl _) (q_end ?_)
      have : xs ≠ ys := fun e => by subst e; rw [gx] at gy; cases gy; simp at h
      simp [this]
    · have hxy : x = y := by simpa using h
      repeat' (first
        | (refine vl_add rfl rfl (by omega) ?_)
        | (refine vl_pure rfl ?_)
        | (refine vl_nil ?_)
        | (refine VC.regV ?_)
        | (refine VC.skip ?_)
        | (refine seqQ_n ?_))
      refine ⟨_, i + 1, _, ?_, ⟨rfl, rfl, rfl, trivial⟩, Mem.le_refl _, rfl, hi, rfl, ?_⟩
      · omega
      · rw [List.take_add_one, List.take_add_one, hpre, gx, gy, hxy]
  · have hi : ¬ i < xs.length := by simpa using h
    repeat' (first
      | (refine vl_pure rfl ?_)
      | (refine vl_nil ?_)
      | (refine VC.seq ?_)
      | (refine VC.regV ?_)
      | (refine VC.ret ?_)
      | (refine VC.exit ?_))
    refine fnQ_r rfl (Mem.le_refl _) (q_end ?_)
    have hxy : xs = ys := by
      have e : i = xs.length := by omega
      subst e
      rw [List.take_of_length_le (by simp), List.take_of_length_le (by simp [hl])] at hpre
      exact hpre
    simp [hxy]

theorem eqIntS_q {M : Mem} {va vb : Value} {xs ys : List Int} (ha : Sl M 1 iv va xs) (hb : Sl M 1 iv vb ys) : Qt Try.prog 74 [va, vb] M (.bool (decide (xs = ys))) := by
  obtain ⟨aa, ca, ea⟩ := ha.len
  obtain ⟨ab, cb, eb⟩ := hb.len
  refine fn74 (by simp) ?_
  subst ea; subst eb
  repeat' (first
    | (refine vl_pure rfl ?_)
    | (refine vl_nil ?_)
    | (refine VC.seq ?_)
    | (refine VC.regV ?_)
    | (refine seqQ_n ?_))
  refine VC.cond _ rfl (fun h => ?_) (fun h => ?_)
  · repeat' (first
      | (refine vl_pure rfl ?_)
      | (refine vl_nil ?_)
      | (refine VC.seq ?_)
      | (refine VC.regV ?_)
      | (refine VC.ret ?_)
      | (refine seqQ_r ?_))
    refine fnQ_r rfl (Mem.le_refl _) (q_end ?_)
    have : xs ≠ ys := fun e => by have e2 := congrArg List.length e; first | (simp only [List.length_map] at e2; simp [e2] at h) | (simp [e2] at h)
    simp [this]
  have hbd := ha.bound
  have hl : xs.length = ys.length := Int.ofNat_inj.1 (by simpa using h)
  repeat' (first
    | (refine vl_pure rfl ?_)
    | (refine vl_nil ?_)
    | (refine VC.seq ?_)
    | (refine VC.regV ?_)
    | (refine VC.block ?_)
    | (refine VC.skip ?_))
  refine VC.loop (α := Nat) (fun i => [(0, .v (.slice aa xs.length ca)), (1, .v (.slice ab ys.length cb)), (5, .v (.int .i64 i))]) (fun k i M' => k = xs.length - i ∧ i ≤ xs.length ∧ M' = M ∧ xs.take i = ys.take i)
    ⟨_, 0, M, ⟨rfl, rfl, rfl, trivial⟩, Mem.le_refl _, rfl, Nat.zero_le _, rfl, by simp⟩ ?_
  rintro k i M' ⟨rfl, hi, rfl, hpre⟩
  repeat' (first
    | (refine vl_pure rfl ?_)
    | (refine vl_nil ?_)
    | (refine VC.seq ?_)
    | (refine VC.regV ?_)
    | (refine seqQ_n ?_))
  refine VC.cond _ rfl (fun h => ?_) (fun h => ?_)
  · have hi : i < xs.length := by simpa using h
    obtain ⟨x, gx⟩ : ∃ x, xs[i]? = some x := ⟨_, List.getElem?_eq_getElem hi⟩
    obtain ⟨y, gy⟩ : ∃ y, ys[i]? = some y := ⟨_, List.getElem?_eq_getElem (hl ▸ hi)⟩
    obtain ⟨b1, o1, rfl, h1⟩ := ha.at2 (fun _ => rfl) gx
    obtain ⟨b2, o2, rfl, h2⟩ := hb.at2 (fun _ => rfl) gy
    repeat' (first
      | (refine vl_pure rfl ?_)
      | (refine vl_ld rfl (by first | exact cells_cell h1 (j := 0) rfl | exact cells_cell h2 (j := 0) rfl) ?_)
      | (refine vl_nil ?_)
      | (refine VC.seq ?_)
      | (refine vl_idx rfl rfl (by omega) ?_)
      | (refine VC.dregV ?_)
      | (refine VC.block ?_)
      | (refine VC.skip ?_)
      | (refine seqQ_n ?_))
    refine VC.cond _ rfl (fun h => ?_) (fun h => ?_)
    · repeat' (first
        | (refine vl_pure rfl ?_)
        | (refine vl_nil ?_)
        | (refine VC.seq ?_)
        | (refine VC.regV ?_)
        | (refine VC.ret ?_)
        | (refine seqQ_r ?_)
        | (refine blkQ_r ?_))
      refine fnQ_r rfl (Mem.le_refl _) (q_end ?_)
      have : xs ≠ ys := fun e => by subst e; rw [gx] at gy; cases gy; simp at h
      simp [this]
    · have hxy : x = y := by simpa using h
      repeat' (first
        | (refine vl_add rfl rfl (by omega) ?_)
        | (refine vl_pure rfl ?_)
        | (refine vl_nil ?_)
        | (refine VC.regV ?_)
        | (refine VC.skip ?_)
        | (refine seqQ_n ?_))
      refine ⟨_, i + 1, _, ?_, ⟨rfl, rfl, rfl, trivial⟩, Mem.le_refl _, rfl, hi, rfl, ?_⟩
      · omega
      · rw [List.take_add_one, List.take_add_one, hpre, gx, gy, hxy]
  · have hi : ¬ i < xs.length := by simpa using h
    repeat' (first
      | (refine vl_pure rfl ?_)
      | (refine vl_nil ?_)
      | (refine VC.seq ?_)
      | (refine VC.regV ?_)
      | (refine VC.ret ?_)
      | (refine VC.exit ?_))
    refine fnQ_r rfl (Mem.le_refl _) (q_end ?_)
    have hxy : xs = ys := by
      have e : i = xs.length := by omega
      subst e
      rw [List.take_of_length_le (by simp), List.take_of_length_le (by simp [hl])] at hpre
      exact hpre
    simp [hxy]

theorem eqCell_q {M : Mem} {a b : CS} (ga : Sl M 6 pv a.s a.c.pairs) (gb : Sl M 6 pv b.s b.c.pairs) : Qt Try.prog 130 [ca a, ca b] M (.bool (decide (a.c = b.c))) := by
  refine fn130 (by simp) ?_
  repeat' (first
    | (refine vl_pure rfl ?_)
    | (refine vl_nil ?_)
    | (refine VC.seq ?_)
    | (refine VC.regV ?_)
    | (refine vl_box rfl rfl ?_)
    | (refine vl_cq rfl (eqPairS_q ga gb) ?_)
    | (refine VC.ret ?_)
    | (refine VC.skip ?_)
    | (refine seqQ_n ?_)
    | (refine seqQ_r ?_)
    | (refine VC.cond _ rfl (fun hb => ?_) (fun hb => ?_)))
  all_goals (refine fnQ_r rfl (Mem.le_refl _) (q_end ?_))
  all_goals (obtain ⟨⟨⟩, _, _⟩ := a; obtain ⟨⟨⟩, _, _⟩ := b; simp_all)
theorem eqCellS_q {M : Mem} {va vb : Value} {xs ys : List CS} (ha : Sl M 8 csv va xs) (hb : Sl M 8 csv vb ys) (hx : ∀ x, x ∈ xs → Sl M 6 pv x.s x.c.pairs) (hy : ∀ x, x ∈ ys → Sl M 6 pv x.s x.c.pairs) : Qt Try.prog 73 [va, vb] M (.bool (decide (xs.map (·.c) = ys.map (·.c)))) := by
  obtain ⟨aa, ca, ea⟩ := ha.len
  obtain ⟨ab, cb, eb⟩ := hb.len
  refine fn73 (by simp) ?_
  subst ea; subst eb
  repeat' (first
    | (refine vl_pure rfl ?_)
    | (refine vl_nil ?_)
    | (refine VC.seq ?_)
    | (refine VC.regV ?_)
    | (refine seqQ_n ?_))
  refine VC.cond _ rfl (fun h => ?_) (fun h => ?_)
  · repeat' (first
      | (refine vl_pure rfl ?_)
      | (refine vl_nil ?_)
      | (refine VC.seq ?_)
      | (refine VC.regV ?_)
      | (refine VC.ret ?_)
      | (refine seqQ_r ?_))
    refine fnQ_r rfl (Mem.le_refl _) (q_end ?_)
    have : xs.map (·.c) ≠ ys.map (·.c) := fun e => by have e2 := congrArg List.length e; first | (simp only [List.length_map] at e2; simp [e2] at h) | (simp [e2] at h)
    simp [this]
  have hbd := ha.bound
  have hl : xs.length = ys.length := Int.ofNat_inj.1 (by simpa using h)
  repeat' (first
    | (refine vl_pure rfl ?_)
    | (refine vl_nil ?_)
    | (refine VC.seq ?_)
    | (refine VC.regV ?_)
    | (refine VC.block ?_)
    | (refine VC.skip ?_))
  refine VC.loop (α := Nat) (fun i => [(0, .v (.slice aa xs.length ca)), (1, .v (.slice ab ys.length cb)), (5, .v (.int .i64 i))]) (fun k i M' => k = xs.length - i ∧ i ≤ xs.length ∧ M' = M ∧ (xs.map (·.c)).take i = (ys.map (·.c)).take i)
    ⟨_, 0, M, ⟨rfl, rfl, rfl, trivial⟩, Mem.le_refl _, rfl, Nat.zero_le _, rfl, by simp⟩ ?_
  rintro k i M' ⟨rfl, hi, rfl, hpre⟩
  repeat' (first
    | (refine vl_pure rfl ?_)
    | (refine vl_nil ?_)
    | (refine VC.seq ?_)
    | (refine VC.regV ?_)
    | (refine seqQ_n ?_))
  refine VC.cond _ rfl (fun h => ?_) (fun h => ?_)
  · have hi : i < xs.length := by simpa using h
    obtain ⟨x, gx⟩ : ∃ x, xs[i]? = some x := ⟨_, List.getElem?_eq_getElem hi⟩
    obtain ⟨y, gy⟩ : ∃ y, ys[i]? = some y := ⟨_, List.getElem?_eq_getElem (hl ▸ hi)⟩
    obtain ⟨b1, o1, rfl, h1⟩ := ha.at2 (fun _ => rfl) gx
    obtain ⟨b2, o2, rfl, h2⟩ := hb.at2 (fun _ => rfl) gy
    repeat' (first
      | (refine vl_pure rfl ?_)
      | (refine vl_nil ?_)
      | (refine VC.seq ?_)
      | (refine vl_idx rfl rfl (by omega) ?_)
      | (refine vl_lds rfl (by first | exact h1 | exact h2) ?_)
      | (refine vl_q rfl (eqCell_q (hx _ (List.mem_of_getElem? gx)) (hy _ (List.mem_of_getElem? gy))) ?_)
      | (refine VC.dregV ?_)
      | (refine VC.block ?_)
      | (refine VC.skip ?_)
      | (refine seqQ_n ?_))
    refine VC.cond _ rfl (fun h => ?_) (fun h => ?_)
    · repeat' (first
        | (refine vl_pure rfl ?_)
        | (refine vl_nil ?_)
        | (refine VC.seq ?_)
        | (refine VC.regV ?_)
        | (refine VC.ret ?_)
        | (refine seqQ_r ?_)
        | (refine blkQ_r ?_))
      refine fnQ_r rfl (Mem.le_refl _) (q_end ?_)
      have : xs.map (·.c) ≠ ys.map (·.c) := fun e => by have e1 := congrArg (·[i]?) e; simp only [List.getElem?_map, gx, gy, Option.map_some, Option.some.injEq] at e1; simp [e1] at h
      simp [this]
    · have hxy : x.c = y.c := by simpa using h
      repeat' (first
        | (refine vl_add rfl rfl (by omega) ?_)
        | (refine vl_pure rfl ?_)
        | (refine vl_nil ?_)
        | (refine VC.regV ?_)
        | (refine VC.skip ?_)
        | (refine seqQ_n ?_))
      refine ⟨_, i + 1, _, ?_, ⟨rfl, rfl, rfl, trivial⟩, Mem.le_refl _, rfl, hi, rfl, ?_⟩
      · omega
      · rw [List.take_add_one, List.take_add_one, hpre, List.getElem?_map, List.getElem?_map, gx, gy, Option.map_some, Option.map_some, hxy]
  · have hi : ¬ i < xs.length := by simpa using h
    repeat' (first
      | (refine vl_pure rfl ?_)
      | (refine vl_nil ?_)
      | (refine VC.seq ?_)
      | (refine VC.regV ?_)
      | (refine VC.ret ?_)
      | (refine VC.exit ?_))
    refine fnQ_r rfl (Mem.le_refl _) (q_end ?_)
    have hxy : xs.map (·.c) = ys.map (·.c) := by
      have e : i = xs.length := by omega
      subst e
      rw [List.take_of_length_le (by simp), List.take_of_length_le (by simp [hl])] at hpre
      exact hpre
    simp [hxy]

end Go.Proofs.Ytcmllambknfleaa.E
