/- The functions of the program in the engine's form, written by a program out of the loaded translation, and checked against it by the kernel. Conditions: none. -/
import Derived.Test.YtpcakglnklpjoaaEngP
import Derived.Test.YtpcakglnklpjoaaChecked
set_option maxRecDepth 100000
set_option linter.unusedVariables false
namespace Go.Proofs.Ytpcakglnklpjoaa.E
open Go
theorem mixed : Try.prog.follows .mixedOrders = true := Try.checked.mixed
/-! (*impl.Heap).formed -/
noncomputable def e106 : Env := ⟨Try.prog, [3], 38, [(7, 14)]⟩
noncomputable def c106 : C :=
  .seq (.reg [
    ⟨some 3, none, .box true (.tmp 1)⟩,
    ⟨some 4, none, .mov (.const (.bool false))⟩]) (.seq (.seq (.reg [
    ⟨some 5, none, .faddr 0 (.tmp 3)⟩,
    ⟨some 6, none, .load true 1 (.tmp 5)⟩]) (.block 0 (.seq (.reg [
    ⟨some 8, none, .bin .eql (.tmp 6) (.const (.int .i64 0))⟩,
    ⟨some 7, none, .mov (.tmp 8)⟩]) (.cond (.tmp 7) (.seq (.reg [
    ⟨some 9, none, .faddr 1 (.tmp 3)⟩,
    ⟨some 10, none, .load true 1 (.tmp 9)⟩,
    ⟨some 11, none, .bin .eql (.tmp 10) (.const (.int .i64 0))⟩,
    ⟨some 12, none, .mov (.tmp 11)⟩,
    ⟨some 13, some (12, true), .faddr 2 (.tmp 3)⟩,
    ⟨some 14, some (12, true), .load true 1 (.tmp 13)⟩,
    ⟨some 15, some (12, true), .bin .eql (.tmp 14) (.const (.int .i64 0))⟩,
    ⟨some 16, none, .pick (.tmp 12) (.tmp 15) (.const (.bool false))⟩,
    ⟨some 4, none, .mov (.tmp 16)⟩]) (.ret)) (.seq (.reg [
    ⟨some 18, none, .bin .eql (.tmp 6) (.const (.int .i64 1))⟩,
    ⟨some 17, none, .mov (.tmp 18)⟩]) (.cond (.tmp 17) (.seq (.reg [
    ⟨some 19, none, .faddr 2 (.tmp 3)⟩,
    ⟨some 20, none, .load true 1 (.tmp 19)⟩,
    ⟨some 21, none, .bin .eql (.tmp 20) (.const (.int .i64 0))⟩,
    ⟨some 4, none, .mov (.tmp 21)⟩]) (.ret)) (.seq (.reg [
    ⟨some 23, none, .bin .eql (.tmp 6) (.const (.int .i64 2))⟩,
    ⟨some 22, none, .mov (.tmp 23)⟩]) (.cond (.tmp 22) (.seq (.dreg 14 [
    ⟨some 24, none, .faddr 1 (.tmp 3)⟩,
    ⟨some 25, none, .load true 1 (.tmp 24)⟩,
    ⟨some 26, none, .bin .eql (.tmp 25) (.const (.int .i64 0))⟩,
    ⟨some 27, none, .mov (.tmp 26)⟩,
    ⟨some 28, some (27, true), .faddr 2 (.tmp 3)⟩,
    ⟨some 29, some (27, true), .load true 1 (.tmp 28)⟩,
    ⟨some 30, some (27, true), .mov (.tmp 0)⟩,
    ⟨some 31, some (27, true), .nilCheck (.tmp 30)⟩,
    ⟨some 32, some (27, true), .faddr 4 (.tmp 31)⟩,
    ⟨some 33, some (27, true), .load true 1 (.tmp 32)⟩,
    ⟨some 34, some (27, true), .lenS (.tmp 33)⟩,
    ⟨some 35, some (27, true), .bin .sub (.tmp 34) (.const (.int .i64 1))⟩,
    ⟨some 36, some (27, true), .qcall 71 [.tmp 29, .const (.int .i64 0), .tmp 35]⟩,
    ⟨some 37, none, .pick (.tmp 27) (.tmp 36) (.const (.bool false))⟩,
    ⟨some 4, none, .mov (.tmp 37)⟩]) (.ret)) (.skip))))))))) (.seq (.reg [
    ⟨some 4, none, .mov (.const (.bool false))⟩]) (.ret)))
theorem t106 : Try.f106.body.bind (trC e106) = some c106 := by kernel_rfl
theorem r106 : Try.f106.results.toList.mapM (trR Try.prog) = some [.tmp 4] := by kernel_rfl
theorem fn106 {args : List Value} {M : Mem} {post : Value → Mem → Prop} (hl : args.length ≤ 38) (h : VC e106 c106 (fnQ [.tmp 4] post) (initS args 38) M) : Fn Try.prog 106 args M post :=
  Fn.of' (E := e106) Try.func106 t106 rfl r106 mixed hl h
/-! (*impl.Heap).lead -/
noncomputable def e107 : Env := ⟨Try.prog, [3, 4], 31, [(1, 15), (2, 10)]⟩
noncomputable def c107 : C :=
  .seq (.reg [
    ⟨some 3, none, .box true (.tmp 1)⟩,
    ⟨some 4, none, .alloc true [.int .i64 0, .int .i64 0, .int .i64 0]⟩]) (.seq (.seq (.dreg 15 [
    ⟨some 5, none, .faddr 0 (.tmp 3)⟩,
    ⟨some 6, none, .load true 1 (.tmp 5)⟩,
    ⟨some 7, none, .bin .eql (.tmp 6) (.const (.int .i64 2))⟩,
    ⟨some 8, none, .mov (.tmp 7)⟩,
    ⟨some 9, some (8, true), .mov (.tmp 0)⟩,
    ⟨some 10, some (8, true), .nilCheck (.tmp 9)⟩,
    ⟨some 11, some (8, true), .faddr 4 (.tmp 10)⟩,
    ⟨some 12, some (8, true), .load true 1 (.tmp 11)⟩,
    ⟨some 13, some (8, true), .faddr 2 (.tmp 3)⟩,
    ⟨some 14, some (8, true), .load true 1 (.tmp 13)⟩,
    ⟨some 15, some (8, true), .iaddr 8 (.tmp 12) (.tmp 14)⟩,
    ⟨some 16, some (8, true), .faddr 0 (.tmp 15)⟩,
    ⟨some 17, some (8, true), .load true 1 (.tmp 16)⟩,
    ⟨some 18, some (8, true), .bin .eql (.tmp 17) (.const (.int .i64 2))⟩,
    ⟨some 19, none, .pick (.tmp 8) (.tmp 18) (.const (.bool false))⟩]) (.cond (.tmp 19) (.seq (.dreg 10 [
    ⟨some 20, none, .mov (.tmp 0)⟩,
    ⟨some 21, none, .nilCheck (.tmp 20)⟩,
    ⟨some 22, none, .faddr 4 (.tmp 21)⟩,
    ⟨some 23, none, .load true 1 (.tmp 22)⟩,
    ⟨some 24, none, .faddr 2 (.tmp 3)⟩,
    ⟨some 25, none, .load true 1 (.tmp 24)⟩,
    ⟨some 26, none, .iaddr 8 (.tmp 23) (.tmp 25)⟩,
    ⟨some 27, none, .faddr 6 (.tmp 26)⟩,
    ⟨some 28, none, .load true 1 (.tmp 27)⟩,
    ⟨some 29, none, .build [.int .i64 0, .int .i64 0, .int .i64 0] [(0, 1, .const (.int .i64 2)), (2, 1, .tmp 28)]⟩,
    ⟨none, none, .store 3 (.tmp 4) (.tmp 29)⟩]) (.ret)) (.skip))) (.seq (.reg [
    ⟨some 30, none, .load false 3 (.tmp 3)⟩,
    ⟨none, none, .store 3 (.tmp 4) (.tmp 30)⟩]) (.ret)))
theorem t107 : Try.f107.body.bind (trC e107) = some c107 := by kernel_rfl
theorem r107 : Try.f107.results.toList.mapM (trR Try.prog) = some [.cell 4 false 3] := by kernel_rfl
theorem fn107 {args : List Value} {M : Mem} {post : Value → Mem → Prop} (hl : args.length ≤ 31) (h : VC e107 c107 (fnQ [.cell 4 false 3] post) (initS args 31) M) : Fn Try.prog 107 args M post :=
  Fn.of' (E := e107) Try.func107 t107 rfl r107 mixed hl h
/-! (impl.Cell).bare -/
noncomputable def e141 : Env := ⟨Try.prog, [1], 32, []⟩
noncomputable def c141 : C :=
  .seq (.reg [
    ⟨some 1, none, .box true (.tmp 0)⟩,
    ⟨some 2, none, .mov (.const (.bool false))⟩]) (.seq (.reg [
    ⟨some 3, none, .faddr 1 (.tmp 1)⟩,
    ⟨some 4, none, .load true 1 (.tmp 3)⟩,
    ⟨some 5, none, .bin .eql (.tmp 4) (.const (.int .i64 0))⟩,
    ⟨some 6, none, .mov (.tmp 5)⟩,
    ⟨some 7, some (6, true), .faddr 2 (.tmp 1)⟩,
    ⟨some 8, some (6, true), .load true 1 (.tmp 7)⟩,
    ⟨some 9, some (6, true), .bin .eql (.tmp 8) (.const (.int .i64 0))⟩,
    ⟨some 10, none, .pick (.tmp 6) (.tmp 9) (.const (.bool false))⟩,
    ⟨some 11, none, .mov (.tmp 10)⟩,
    ⟨some 12, some (11, true), .faddr 3 (.tmp 1)⟩,
    ⟨some 13, some (11, true), .load true 1 (.tmp 12)⟩,
    ⟨some 14, some (11, true), .bin .eql (.tmp 13) (.const (.int .i64 0))⟩,
    ⟨some 15, none, .pick (.tmp 11) (.tmp 14) (.const (.bool false))⟩,
    ⟨some 16, none, .mov (.tmp 15)⟩,
    ⟨some 17, some (16, true), .faddr 4 (.tmp 1)⟩,
    ⟨some 18, some (16, true), .load true 1 (.tmp 17)⟩,
    ⟨some 19, some (16, true), .bin .eql (.tmp 18) (.const (.int .i64 0))⟩,
    ⟨some 20, none, .pick (.tmp 16) (.tmp 19) (.const (.bool false))⟩,
    ⟨some 21, none, .mov (.tmp 20)⟩,
    ⟨some 22, some (21, true), .faddr 5 (.tmp 1)⟩,
    ⟨some 23, some (21, true), .load true 1 (.tmp 22)⟩,
    ⟨some 24, some (21, true), .bin .eql (.tmp 23) (.const (.int .i64 0))⟩,
    ⟨some 25, none, .pick (.tmp 21) (.tmp 24) (.const (.bool false))⟩,
    ⟨some 26, none, .mov (.tmp 25)⟩,
    ⟨some 27, some (26, true), .faddr 7 (.tmp 1)⟩,
    ⟨some 28, some (26, true), .load true 1 (.tmp 27)⟩,
    ⟨some 29, some (26, true), .lenS (.tmp 28)⟩,
    ⟨some 30, some (26, true), .bin .eql (.tmp 29) (.const (.int .i64 0))⟩,
    ⟨some 31, none, .pick (.tmp 26) (.tmp 30) (.const (.bool false))⟩,
    ⟨some 2, none, .mov (.tmp 31)⟩]) (.ret))
theorem t141 : Try.f141.body.bind (trC e141) = some c141 := by kernel_rfl
theorem r141 : Try.f141.results.toList.mapM (trR Try.prog) = some [.tmp 2] := by kernel_rfl
theorem fn141 {args : List Value} {M : Mem} {post : Value → Mem → Prop} (hl : args.length ≤ 32) (h : VC e141 c141 (fnQ [.tmp 2] post) (initS args 32) M) : Fn Try.prog 141 args M post :=
  Fn.of' (E := e141) Try.func141 t141 rfl r141 mixed hl h
/-! (impl.Cell).units -/
noncomputable def e142 : Env := ⟨Try.prog, [1], 10, []⟩
noncomputable def c142 : C :=
  .seq (.reg [
    ⟨some 1, none, .box true (.tmp 0)⟩,
    ⟨some 2, none, .mov (.const (.int .i64 0))⟩]) (.seq (.seq (.reg [
    ⟨some 3, none, .faddr 0 (.tmp 1)⟩,
    ⟨some 4, none, .load true 1 (.tmp 3)⟩,
    ⟨some 5, none, .bin .neq (.tmp 4) (.const (.int .i64 1))⟩]) (.cond (.tmp 5) (.seq (.reg [
    ⟨some 2, none, .mov (.const (.int .i64 0))⟩]) (.ret)) (.skip))) (.seq (.reg [
    ⟨some 6, none, .faddr 7 (.tmp 1)⟩,
    ⟨some 7, none, .load true 1 (.tmp 6)⟩,
    ⟨some 8, none, .lenS (.tmp 7)⟩,
    ⟨some 9, none, .bin .add (.const (.int .i64 1)) (.tmp 8)⟩,
    ⟨some 2, none, .mov (.tmp 9)⟩]) (.ret)))
theorem t142 : Try.f142.body.bind (trC e142) = some c142 := by kernel_rfl
theorem r142 : Try.f142.results.toList.mapM (trR Try.prog) = some [.tmp 2] := by kernel_rfl
theorem fn142 {args : List Value} {M : Mem} {post : Value → Mem → Prop} (hl : args.length ≤ 10) (h : VC e142 c142 (fnQ [.tmp 2] post) (initS args 10) M) : Fn Try.prog 142 args M post :=
  Fn.of' (E := e142) Try.func142 t142 rfl r142 mixed hl h
/-! (*impl.Heap).leadsWell -/
noncomputable def e143 : Env := ⟨Try.prog, [4], 36, [(3, 9)]⟩
noncomputable def c143 : C :=
  .seq (.reg [
    ⟨some 4, none, .box true (.tmp 1)⟩,
    ⟨some 6, none, .mov (.const (.bool false))⟩]) (.seq (.seq (.reg [
    ⟨some 8, none, .faddr 0 (.tmp 4)⟩,
    ⟨some 9, none, .load true 1 (.tmp 8)⟩,
    ⟨some 10, none, .bin .neq (.tmp 9) (.const (.int .i64 2))⟩]) (.cond (.tmp 10) (.seq (.reg [
    ⟨some 6, none, .mov (.const (.bool true))⟩]) (.ret)) (.skip))) (.seq (.dreg 9 [
    ⟨some 11, none, .mov (.tmp 0)⟩,
    ⟨some 12, none, .nilCheck (.tmp 11)⟩,
    ⟨some 13, none, .faddr 4 (.tmp 12)⟩,
    ⟨some 14, none, .load true 1 (.tmp 13)⟩,
    ⟨some 15, none, .faddr 2 (.tmp 4)⟩,
    ⟨some 16, none, .load true 1 (.tmp 15)⟩,
    ⟨some 17, none, .iaddr 8 (.tmp 14) (.tmp 16)⟩,
    ⟨some 18, none, .faddr 0 (.tmp 17)⟩,
    ⟨some 19, none, .load true 1 (.tmp 18)⟩,
    ⟨some 7, none, .mov (.tmp 19)⟩]) (.seq (.reg [
    ⟨some 20, none, .mov (.tmp 7)⟩,
    ⟨some 21, none, .bin .eql (.tmp 20) (.const (.int .i64 1))⟩,
    ⟨some 22, none, .mov (.tmp 21)⟩,
    ⟨some 23, some (22, true), .mov (.tmp 0)⟩,
    ⟨some 24, some (22, true), .faddr 2 (.tmp 4)⟩,
    ⟨some 25, some (22, true), .load true 1 (.tmp 24)⟩,
    ⟨some 26, some (22, true), .call 144 [.tmp 23, .tmp 25]⟩,
    ⟨some 27, some (22, true), .not (.tmp 26)⟩,
    ⟨some 28, none, .pick (.tmp 22) (.tmp 27) (.const (.bool false))⟩,
    ⟨some 29, none, .mov (.tmp 28)⟩,
    ⟨some 30, some (29, false), .mov (.tmp 7)⟩,
    ⟨some 31, some (29, false), .bin .eql (.tmp 30) (.const (.int .i64 2))⟩,
    ⟨some 32, some (29, false), .mov (.tmp 31)⟩,
    ⟨some 33, some (32, true), .mov (.tmp 2)⟩,
    ⟨some 34, some (29, false), .pick (.tmp 32) (.tmp 33) (.const (.bool false))⟩,
    ⟨some 35, none, .pick (.tmp 29) (.const (.bool true)) (.tmp 34)⟩,
    ⟨some 6, none, .mov (.tmp 35)⟩]) (.ret))))
theorem t143 : Try.f143.body.bind (trC e143) = some c143 := by kernel_rfl
theorem r143 : Try.f143.results.toList.mapM (trR Try.prog) = some [.tmp 6] := by kernel_rfl
theorem fn143 {args : List Value} {M : Mem} {post : Value → Mem → Prop} (hl : args.length ≤ 36) (h : VC e143 c143 (fnQ [.tmp 6] post) (initS args 36) M) : Fn Try.prog 143 args M post :=
  Fn.of' (E := e143) Try.func143 t143 rfl r143 mixed hl h
/-! (*impl.Heap).doomed -/
noncomputable def e144 : Env := ⟨Try.prog, [5], 36, []⟩
noncomputable def c144 : C :=
  .seq (.reg [
    ⟨some 4, none, .mov (.const (.bool false))⟩]) (.seq (.reg [
    ⟨some 6, none, .mov (.tmp 0)⟩,
    ⟨some 7, none, .nilCheck (.tmp 6)⟩,
    ⟨some 8, none, .faddr 4 (.tmp 7)⟩,
    ⟨some 9, none, .load true 1 (.tmp 8)⟩,
    ⟨some 10, none, .mov (.tmp 1)⟩,
    ⟨some 11, none, .iaddr 8 (.tmp 9) (.tmp 10)⟩,
    ⟨some 12, none, .load false 8 (.tmp 11)⟩,
    ⟨some 5, none, .alloc true [.int .i64 0, .int .i64 0, .int .i64 0, .int .i64 0, .int .i64 0, .int .i64 0, .int .i64 0, .slice none 0 0]⟩,
    ⟨none, none, .store 8 (.tmp 5) (.tmp 12)⟩]) (.seq (.reg [
    ⟨some 13, none, .mov (.tmp 0)⟩,
    ⟨some 14, none, .nilCheck (.tmp 13)⟩,
    ⟨some 15, none, .faddr 5 (.tmp 14)⟩,
    ⟨some 16, none, .load true 1 (.tmp 15)⟩,
    ⟨some 17, none, .bin .eql (.tmp 16) (.const (.int .i64 3))⟩,
    ⟨some 18, none, .mov (.tmp 17)⟩,
    ⟨some 19, some (18, true), .faddr 0 (.tmp 5)⟩,
    ⟨some 20, some (18, true), .load true 1 (.tmp 19)⟩,
    ⟨some 21, some (18, true), .bin .eql (.tmp 20) (.const (.int .i64 1))⟩,
    ⟨some 22, none, .pick (.tmp 18) (.tmp 21) (.const (.bool false))⟩,
    ⟨some 23, none, .mov (.tmp 22)⟩,
    ⟨some 24, some (23, true), .faddr 5 (.tmp 5)⟩,
    ⟨some 25, some (23, true), .load true 1 (.tmp 24)⟩,
    ⟨some 26, some (23, true), .bin .eql (.tmp 25) (.const (.int .i64 0))⟩,
    ⟨some 27, none, .pick (.tmp 23) (.tmp 26) (.const (.bool false))⟩,
    ⟨some 28, none, .mov (.tmp 27)⟩,
    ⟨some 29, some (28, true), .mov (.tmp 1)⟩,
    ⟨some 30, some (28, true), .mov (.tmp 0)⟩,
    ⟨some 31, some (28, true), .nilCheck (.tmp 30)⟩,
    ⟨some 32, some (28, true), .faddr 6 (.tmp 31)⟩,
    ⟨some 33, some (28, true), .load true 1 (.tmp 32)⟩,
    ⟨some 34, some (28, true), .bin .geq (.tmp 29) (.tmp 33)⟩,
    ⟨some 35, none, .pick (.tmp 28) (.tmp 34) (.const (.bool false))⟩,
    ⟨some 4, none, .mov (.tmp 35)⟩]) (.ret)))
theorem t144 : Try.f144.body.bind (trC e144) = some c144 := by kernel_rfl
theorem r144 : Try.f144.results.toList.mapM (trR Try.prog) = some [.tmp 4] := by kernel_rfl
theorem fn144 {args : List Value} {M : Mem} {post : Value → Mem → Prop} (hl : args.length ≤ 36) (h : VC e144 c144 (fnQ [.tmp 4] post) (initS args 36) M) : Fn Try.prog 144 args M post :=
  Fn.of' (E := e144) Try.func144 t144 rfl r144 mixed hl h
/-! (impl.Cell).root -/
noncomputable def e145 : Env := ⟨Try.prog, [1], 16, []⟩
noncomputable def c145 : C :=
  .seq (.reg [
    ⟨some 1, none, .box true (.tmp 0)⟩,
    ⟨some 2, none, .mov (.const (.bool false))⟩]) (.seq (.reg [
    ⟨some 3, none, .faddr 0 (.tmp 1)⟩,
    ⟨some 4, none, .load true 1 (.tmp 3)⟩,
    ⟨some 5, none, .bin .eql (.tmp 4) (.const (.int .i64 1))⟩,
    ⟨some 6, none, .mov (.tmp 5)⟩,
    ⟨some 7, some (6, true), .faddr 3 (.tmp 1)⟩,
    ⟨some 8, some (6, true), .load true 1 (.tmp 7)⟩,
    ⟨some 9, some (6, true), .bin .eql (.tmp 8) (.const (.int .i64 1))⟩,
    ⟨some 10, some (6, true), .mov (.tmp 9)⟩,
    ⟨some 11, some (10, false), .faddr 3 (.tmp 1)⟩,
    ⟨some 12, some (10, false), .load true 1 (.tmp 11)⟩,
    ⟨some 13, some (10, false), .bin .eql (.tmp 12) (.const (.int .i64 2))⟩,
    ⟨some 14, some (6, true), .pick (.tmp 10) (.const (.bool true)) (.tmp 13)⟩,
    ⟨some 15, none, .pick (.tmp 6) (.tmp 14) (.const (.bool false))⟩,
    ⟨some 2, none, .mov (.tmp 15)⟩]) (.ret))
theorem t145 : Try.f145.body.bind (trC e145) = some c145 := by kernel_rfl
theorem r145 : Try.f145.results.toList.mapM (trR Try.prog) = some [.tmp 2] := by kernel_rfl
theorem fn145 {args : List Value} {M : Mem} {post : Value → Mem → Prop} (hl : args.length ≤ 16) (h : VC e145 c145 (fnQ [.tmp 2] post) (initS args 16) M) : Fn Try.prog 145 args M post :=
  Fn.of' (E := e145) Try.func145 t145 rfl r145 mixed hl h
/-! (*impl.Heap).mended -/
noncomputable def e146 : Env := ⟨Try.prog, [], 37, []⟩
noncomputable def c146 : C :=
  .seq (.reg [
    ⟨some 6, none, .mov (.const (.bool false))⟩]) (.seq (.seq (.reg [
    ⟨some 7, none, .mov (.tmp 0)⟩,
    ⟨some 8, none, .nilCheck (.tmp 7)⟩,
    ⟨some 9, none, .faddr 5 (.tmp 8)⟩,
    ⟨some 10, none, .load true 1 (.tmp 9)⟩]) (.block 0 (.seq (.reg [
    ⟨some 12, none, .bin .eql (.tmp 10) (.const (.int .i64 4))⟩,
    ⟨some 11, none, .mov (.tmp 12)⟩]) (.cond (.tmp 11) (.seq (.reg [
    ⟨some 6, none, .mov (.const (.bool false))⟩]) (.ret)) (.seq (.reg [
    ⟨some 14, none, .bin .eql (.tmp 10) (.const (.int .i64 5))⟩,
    ⟨some 13, none, .mov (.tmp 14)⟩]) (.cond (.tmp 13) (.seq (.reg [
    ⟨some 15, none, .mov (.tmp 1)⟩,
    ⟨some 16, none, .mov (.tmp 0)⟩,
    ⟨some 17, none, .nilCheck (.tmp 16)⟩,
    ⟨some 18, none, .faddr 6 (.tmp 17)⟩,
    ⟨some 19, none, .load true 1 (.tmp 18)⟩,
    ⟨some 20, none, .bin .lss (.tmp 15) (.tmp 19)⟩,
    ⟨some 21, none, .mov (.tmp 20)⟩,
    ⟨some 22, some (21, false), .mov (.tmp 1)⟩,
    ⟨some 23, some (21, false), .mov (.tmp 0)⟩,
    ⟨some 24, some (21, false), .nilCheck (.tmp 23)⟩,
    ⟨some 25, some (21, false), .faddr 6 (.tmp 24)⟩,
    ⟨some 26, some (21, false), .load true 1 (.tmp 25)⟩,
    ⟨some 27, some (21, false), .bin .eql (.tmp 22) (.tmp 26)⟩,
    ⟨some 28, some (21, false), .mov (.tmp 27)⟩,
    ⟨some 29, some (28, true), .mov (.tmp 2)⟩,
    ⟨some 30, some (28, true), .mov (.tmp 0)⟩,
    ⟨some 31, some (28, true), .nilCheck (.tmp 30)⟩,
    ⟨some 32, some (28, true), .faddr 7 (.tmp 31)⟩,
    ⟨some 33, some (28, true), .load true 1 (.tmp 32)⟩,
    ⟨some 34, some (28, true), .bin .lss (.tmp 29) (.tmp 33)⟩,
    ⟨some 35, some (21, false), .pick (.tmp 28) (.tmp 34) (.const (.bool false))⟩,
    ⟨some 36, none, .pick (.tmp 21) (.const (.bool true)) (.tmp 35)⟩,
    ⟨some 6, none, .mov (.tmp 36)⟩]) (.ret)) (.skip))))))) (.seq (.reg [
    ⟨some 6, none, .mov (.const (.bool true))⟩]) (.ret)))
theorem t146 : Try.f146.body.bind (trC e146) = some c146 := by kernel_rfl
theorem r146 : Try.f146.results.toList.mapM (trR Try.prog) = some [.tmp 6] := by kernel_rfl
theorem fn146 {args : List Value} {M : Mem} {post : Value → Mem → Prop} (hl : args.length ≤ 37) (h : VC e146 c146 (fnQ [.tmp 6] post) (initS args 37) M) : Fn Try.prog 146 args M post :=
  Fn.of' (E := e146) Try.func146 t146 rfl r146 mixed hl h
/-! (*impl.Heap).marking -/
noncomputable def e147 : Env := ⟨Try.prog, [], 15, []⟩
noncomputable def c147 : C :=
  .seq (.reg [
    ⟨some 2, none, .mov (.const (.bool false))⟩]) (.seq (.reg [
    ⟨some 3, none, .mov (.tmp 0)⟩,
    ⟨some 4, none, .nilCheck (.tmp 3)⟩,
    ⟨some 5, none, .faddr 5 (.tmp 4)⟩,
    ⟨some 6, none, .load true 1 (.tmp 5)⟩,
    ⟨some 7, none, .bin .eql (.tmp 6) (.const (.int .i64 1))⟩,
    ⟨some 8, none, .mov (.tmp 7)⟩,
    ⟨some 9, some (8, false), .mov (.tmp 0)⟩,
    ⟨some 10, some (8, false), .nilCheck (.tmp 9)⟩,
    ⟨some 11, some (8, false), .faddr 5 (.tmp 10)⟩,
    ⟨some 12, some (8, false), .load true 1 (.tmp 11)⟩,
    ⟨some 13, some (8, false), .bin .eql (.tmp 12) (.const (.int .i64 2))⟩,
    ⟨some 14, none, .pick (.tmp 8) (.const (.bool true)) (.tmp 13)⟩,
    ⟨some 2, none, .mov (.tmp 14)⟩]) (.ret))
theorem t147 : Try.f147.body.bind (trC e147) = some c147 := by kernel_rfl
theorem r147 : Try.f147.results.toList.mapM (trR Try.prog) = some [.tmp 2] := by kernel_rfl
theorem fn147 {args : List Value} {M : Mem} {post : Value → Mem → Prop} (hl : args.length ≤ 15) (h : VC e147 c147 (fnQ [.tmp 2] post) (initS args 15) M) : Fn Try.prog 147 args M post :=
  Fn.of' (E := e147) Try.func147 t147 rfl r147 mixed hl h
/-! (*impl.Heap).white -/
noncomputable def e148 : Env := ⟨Try.prog, [3], 20, [(1, 15)]⟩
noncomputable def c148 : C :=
  .seq (.reg [
    ⟨some 3, none, .box true (.tmp 1)⟩,
    ⟨some 4, none, .mov (.const (.bool false))⟩]) (.seq (.dreg 15 [
    ⟨some 5, none, .faddr 0 (.tmp 3)⟩,
    ⟨some 6, none, .load true 1 (.tmp 5)⟩,
    ⟨some 7, none, .bin .eql (.tmp 6) (.const (.int .i64 2))⟩,
    ⟨some 8, none, .mov (.tmp 7)⟩,
    ⟨some 9, some (8, true), .mov (.tmp 0)⟩,
    ⟨some 10, some (8, true), .nilCheck (.tmp 9)⟩,
    ⟨some 11, some (8, true), .faddr 4 (.tmp 10)⟩,
    ⟨some 12, some (8, true), .load true 1 (.tmp 11)⟩,
    ⟨some 13, some (8, true), .faddr 2 (.tmp 3)⟩,
    ⟨some 14, some (8, true), .load true 1 (.tmp 13)⟩,
    ⟨some 15, some (8, true), .iaddr 8 (.tmp 12) (.tmp 14)⟩,
    ⟨some 16, some (8, true), .faddr 5 (.tmp 15)⟩,
    ⟨some 17, some (8, true), .load true 1 (.tmp 16)⟩,
    ⟨some 18, some (8, true), .bin .eql (.tmp 17) (.const (.int .i64 0))⟩,
    ⟨some 19, none, .pick (.tmp 8) (.tmp 18) (.const (.bool false))⟩,
    ⟨some 4, none, .mov (.tmp 19)⟩]) (.ret))
theorem t148 : Try.f148.body.bind (trC e148) = some c148 := by kernel_rfl
theorem r148 : Try.f148.results.toList.mapM (trR Try.prog) = some [.tmp 4] := by kernel_rfl
theorem fn148 {args : List Value} {M : Mem} {post : Value → Mem → Prop} (hl : args.length ≤ 20) (h : VC e148 c148 (fnQ [.tmp 4] post) (initS args 20) M) : Fn Try.prog 148 args M post :=
  Fn.of' (E := e148) Try.func148 t148 rfl r148 mixed hl h
end Go.Proofs.Ytpcakglnklpjoaa.E
