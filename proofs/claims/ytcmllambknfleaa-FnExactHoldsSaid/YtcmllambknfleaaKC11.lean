/- The functions of the program in the engine's form, written by a program out of the loaded translation, and checked against it by the kernel. Conditions: none. -/
import Derived.Test.YtcmllambknfleaaKC10
import Derived.Test.YtcmllambknfleaaChecked
set_option maxRecDepth 100000
set_option linter.unusedVariables false
namespace Go.Proofs.Ytcmllambknfleaa.E
open Go
/-! (*impl.Heap).to -/
noncomputable def e150 : Env := ⟨Try.prog, [3], 12, []⟩
noncomputable def c150 : C :=
  .seq (.reg [
    ⟨some 3, none, .box true (.tmp 1)⟩,
    ⟨some 4, none, .mov (.const (.int .i64 0))⟩]) (.seq (.seq (.reg [
    ⟨some 5, none, .faddr 0 (.tmp 3)⟩,
    ⟨some 6, none, .load true 1 (.tmp 5)⟩,
    ⟨some 7, none, .bin .neq (.tmp 6) (.const (.int .i64 2))⟩]) (.cond (.tmp 7) (.seq (.reg [
    ⟨some 4, none, .mov (.const (.int .i64 (-1)))⟩]) (.ret)) (.skip))) (.seq (.reg [
    ⟨some 8, none, .mov (.tmp 0)⟩,
    ⟨some 9, none, .load false 3 (.tmp 3)⟩,
    ⟨some 10, none, .call 107 [.tmp 8, .tmp 9]⟩,
    ⟨some 11, none, .field true 2 1 (.tmp 10)⟩,
    ⟨some 4, none, .mov (.tmp 11)⟩]) (.ret)))
theorem t150 : Try.f150.body.bind (trC e150) = some c150 := by kernel_rfl
theorem r150 : Try.f150.results.toList.mapM (trR Try.prog) = some [.tmp 4] := by kernel_rfl
theorem fn150 {args : List Value} {M : Mem} {post : Value → Mem → Prop} (hl : args.length ≤ 12) (h : VC e150 c150 (fnQ [.tmp 4] post) (initS args 12) M) : Fn Try.prog 150 args M post :=
  Fn.of' (E := e150) Try.func150 t150 rfl r150 mixed hl h
end Go.Proofs.Ytcmllambknfleaa.E
/- The functions of the program in the engine's form, written by a program out of the loaded translation, and checked against it by the kernel. Conditions: none. -/
set_option maxRecDepth 100000
set_option linter.unusedVariables false
namespace Go.Proofs.Ytcmllambknfleaa.E
open Go
/-! (*impl.Heap).reach -/
noncomputable def e112 : Env := ⟨Try.prog, [7, 9, 10, 12], 87, [(16, 13)]⟩
noncomputable def c112 : C :=
  .seq (.reg [
    ⟨some 1, none, .box false (.tmp 0)⟩,
    ⟨some 2, none, .mov (.const (.slice none 0 0))⟩]) (.seq (.reg [
    ⟨some 13, none, .load true 1 (.tmp 1)⟩,
    ⟨some 14, none, .nilCheck (.tmp 13)⟩,
    ⟨some 15, none, .faddr 4 (.tmp 14)⟩,
    ⟨some 16, none, .load true 1 (.tmp 15)⟩,
    ⟨some 17, none, .lenS (.tmp 16)⟩,
    ⟨some 18, none, .mkslice 1 1 [.bool false] (.tmp 17) (.tmp 17)⟩,
    ⟨some 3, none, .alloc false [.slice none 0 0]⟩,
    ⟨none, none, .store 1 (.tmp 3) (.tmp 18)⟩]) (.seq (.reg [
    ⟨some 4, none, .alloc false [.slice none 0 0]⟩]) (.seq (.reg [
    ⟨some 19, none, .mkfn 149 [] [.tmp 1, .tmp 3, .tmp 4]⟩,
    ⟨some 5, none, .mov (.tmp 19)⟩]) (.seq (.seq (.reg [
    ⟨some 20, none, .load true 1 (.tmp 1)⟩,
    ⟨some 21, none, .nilCheck (.tmp 20)⟩,
    ⟨some 22, none, .faddr 3 (.tmp 21)⟩,
    ⟨some 23, none, .load true 1 (.tmp 22)⟩,
    ⟨some 24, none, .lenS (.tmp 23)⟩,
    ⟨some 25, none, .mov (.const (.int .i64 0))⟩]) (.block 0 (.loop (.seq (.reg [
    ⟨some 26, none, .bin .lss (.tmp 25) (.tmp 24)⟩]) (.seq (.cond (.tmp 26) (.skip) (.exit 0)) (.seq (.block 1 (.seq (.reg [
    ⟨some 27, none, .iaddr 3 (.tmp 23) (.tmp 25)⟩,
    ⟨some 28, none, .load false 3 (.tmp 27)⟩,
    ⟨some 7, none, .alloc true [.int .i64 0, .int .i64 0, .int .i64 0]⟩,
    ⟨none, none, .store 3 (.tmp 7) (.tmp 28)⟩]) (.reg [
    ⟨some 29, none, .mov (.tmp 5)⟩,
    ⟨some 30, none, .load false 3 (.tmp 7)⟩,
    ⟨some 31, none, .callv (.tmp 29) [.tmp 30]⟩]))) (.reg [
    ⟨some 32, none, .bin .add (.tmp 25) (.const (.int .i64 1))⟩,
    ⟨some 25, none, .mov (.tmp 32)⟩]))))))) (.seq (.seq (.reg [
    ⟨some 33, none, .load true 1 (.tmp 1)⟩,
    ⟨some 34, none, .nilCheck (.tmp 33)⟩,
    ⟨some 35, none, .faddr 4 (.tmp 34)⟩,
    ⟨some 36, none, .load true 1 (.tmp 35)⟩,
    ⟨some 37, none, .lenS (.tmp 36)⟩,
    ⟨some 38, none, .mov (.const (.int .i64 0))⟩]) (.block 2 (.loop (.seq (.reg [
    ⟨some 39, none, .bin .lss (.tmp 38) (.tmp 37)⟩]) (.seq (.cond (.tmp 39) (.skip) (.exit 2)) (.seq (.block 3 (.seq (.reg [
    ⟨some 40, none, .mov (.tmp 38)⟩,
    ⟨some 41, none, .iaddr 8 (.tmp 36) (.tmp 38)⟩,
    ⟨some 42, none, .load false 8 (.tmp 41)⟩,
    ⟨some 9, none, .alloc true [.int .i64 0, .int .i64 0, .int .i64 0, .int .i64 0, .int .i64 0, .int .i64 0, .int .i64 0, .slice none 0 0]⟩,
    ⟨some 8, none, .mov (.tmp 40)⟩,
    ⟨none, none, .store 8 (.tmp 9) (.tmp 42)⟩]) (.seq (.reg [
    ⟨some 43, none, .load false 8 (.tmp 9)⟩,
    ⟨some 44, none, .call 145 [.tmp 43]⟩]) (.cond (.tmp 44) (.reg [
    ⟨some 45, none, .mov (.tmp 5)⟩,
    ⟨some 46, none, .mov (.tmp 8)⟩,
    ⟨some 47, none, .build [.int .i64 0, .int .i64 0, .int .i64 0] [(0, 1, .const (.int .i64 2)), (2, 1, .tmp 46)]⟩,
    ⟨some 48, none, .callv (.tmp 45) [.tmp 47]⟩]) (.skip))))) (.reg [
    ⟨some 49, none, .bin .add (.tmp 38) (.const (.int .i64 1))⟩,
    ⟨some 38, none, .mov (.tmp 49)⟩]))))))) (.seq (.block 4 (.loop (.seq (.seq (.reg [
    ⟨some 50, none, .load true 1 (.tmp 4)⟩,
    ⟨some 51, none, .lenS (.tmp 50)⟩,
    ⟨some 52, none, .bin .gtr (.tmp 51) (.const (.int .i64 0))⟩]) (.cond (.tmp 52) (.skip) (.exit 4))) (.block 5 (.seq (.dreg 13 [
    ⟨some 53, none, .load true 1 (.tmp 1)⟩,
    ⟨some 54, none, .nilCheck (.tmp 53)⟩,
    ⟨some 55, none, .faddr 4 (.tmp 54)⟩,
    ⟨some 56, none, .load true 1 (.tmp 55)⟩,
    ⟨some 57, none, .load true 1 (.tmp 4)⟩,
    ⟨some 58, none, .load true 1 (.tmp 4)⟩,
    ⟨some 59, none, .lenS (.tmp 58)⟩,
    ⟨some 60, none, .bin .sub (.tmp 59) (.const (.int .i64 1))⟩,
    ⟨some 61, none, .iaddr 1 (.tmp 57) (.tmp 60)⟩,
    ⟨some 62, none, .load true 1 (.tmp 61)⟩,
    ⟨some 63, none, .iaddr 8 (.tmp 56) (.tmp 62)⟩,
    ⟨some 64, none, .load false 8 (.tmp 63)⟩,
    ⟨some 10, none, .alloc true [.int .i64 0, .int .i64 0, .int .i64 0, .int .i64 0, .int .i64 0, .int .i64 0, .int .i64 0, .slice none 0 0]⟩,
    ⟨none, none, .store 8 (.tmp 10) (.tmp 64)⟩]) (.seq (.reg [
    ⟨some 65, none, .load true 1 (.tmp 4)⟩,
    ⟨some 66, none, .load true 1 (.tmp 4)⟩,
    ⟨some 67, none, .lenS (.tmp 66)⟩,
    ⟨some 68, none, .bin .sub (.tmp 67) (.const (.int .i64 1))⟩,
    ⟨some 69, none, .slc 1 (.tmp 65) none (some (.tmp 68))⟩,
    ⟨none, none, .store 1 (.tmp 4) (.tmp 69)⟩]) (.seq (.reg [
    ⟨some 70, none, .faddr 7 (.tmp 10)⟩,
    ⟨some 71, none, .load true 1 (.tmp 70)⟩,
    ⟨some 72, none, .lenS (.tmp 71)⟩,
    ⟨some 73, none, .mov (.const (.int .i64 0))⟩]) (.block 6 (.loop (.seq (.reg [
    ⟨some 74, none, .bin .lss (.tmp 73) (.tmp 72)⟩]) (.seq (.cond (.tmp 74) (.skip) (.exit 6)) (.seq (.block 7 (.seq (.reg [
    ⟨some 75, none, .iaddr 6 (.tmp 71) (.tmp 73)⟩,
    ⟨some 76, none, .load false 6 (.tmp 75)⟩,
    ⟨some 12, none, .alloc true [.int .i64 0, .int .i64 0, .int .i64 0, .int .i64 0, .int .i64 0, .int .i64 0]⟩,
    ⟨none, none, .store 6 (.tmp 12) (.tmp 76)⟩]) (.seq (.reg [
    ⟨some 77, none, .mov (.tmp 5)⟩,
    ⟨some 78, none, .faddr 0 (.tmp 12)⟩,
    ⟨some 79, none, .load false 3 (.tmp 78)⟩,
    ⟨some 80, none, .callv (.tmp 77) [.tmp 79]⟩]) (.reg [
    ⟨some 81, none, .mov (.tmp 5)⟩,
    ⟨some 82, none, .faddr 3 (.tmp 12)⟩,
    ⟨some 83, none, .load false 3 (.tmp 82)⟩,
    ⟨some 84, none, .callv (.tmp 81) [.tmp 83]⟩])))) (.reg [
    ⟨some 85, none, .bin .add (.tmp 73) (.const (.int .i64 1))⟩,
    ⟨some 73, none, .mov (.tmp 85)⟩]))))))))))))) (.seq (.reg [
    ⟨some 86, none, .load true 1 (.tmp 3)⟩,
    ⟨some 2, none, .mov (.tmp 86)⟩]) (.ret))))))))
theorem t112 : Try.f112.body.bind (trC e112) = some c112 := by kernel_rfl
theorem r112 : Try.f112.results.toList.mapM (trR Try.prog) = some [.tmp 2] := by kernel_rfl
theorem fn112 {args : List Value} {M : Mem} {post : Value → Mem → Prop} (hl : args.length ≤ 87) (h : VC e112 c112 (fnQ [.tmp 2] post) (initS args 87) M) : Fn Try.prog 112 args M post :=
  Fn.of' (E := e112) Try.func112 t112 rfl r112 mixed hl h
/-! (*impl.Heap).reach$1 -/
noncomputable def e149 : Env := ⟨Try.prog, [4, 23], 25, []⟩
noncomputable def c149 : C :=
  .seq (.reg [
    ⟨some 4, none, .box true (.tmp 0)⟩]) (.seq (.reg [
    ⟨some 6, none, .load true 1 (.tmp 1)⟩,
    ⟨some 7, none, .load false 3 (.tmp 4)⟩,
    ⟨some 8, none, .call 150 [.tmp 6, .tmp 7]⟩,
    ⟨some 5, none, .mov (.tmp 8)⟩]) (.seq (.reg [
    ⟨some 9, none, .mov (.tmp 5)⟩,
    ⟨some 10, none, .bin .geq (.tmp 9) (.const (.int .i64 0))⟩,
    ⟨some 11, none, .mov (.tmp 10)⟩,
    ⟨some 12, some (11, true), .load true 1 (.tmp 2)⟩,
    ⟨some 13, some (11, true), .mov (.tmp 5)⟩,
    ⟨some 14, some (11, true), .iaddr 1 (.tmp 12) (.tmp 13)⟩,
    ⟨some 15, some (11, true), .load true 1 (.tmp 14)⟩,
    ⟨some 16, some (11, true), .not (.tmp 15)⟩,
    ⟨some 17, none, .pick (.tmp 11) (.tmp 16) (.const (.bool false))⟩]) (.cond (.tmp 17) (.seq (.reg [
    ⟨some 18, none, .load true 1 (.tmp 2)⟩,
    ⟨some 19, none, .mov (.tmp 5)⟩,
    ⟨some 20, none, .iaddr 1 (.tmp 18) (.tmp 19)⟩,
    ⟨none, none, .store 1 (.tmp 20) (.const (.bool true))⟩]) (.reg [
    ⟨some 21, none, .load true 1 (.tmp 3)⟩,
    ⟨some 22, none, .mov (.tmp 5)⟩,
    ⟨some 23, none, .bslice true 1 1 [.int .i64 0] [(0, 1, .tmp 22)]⟩,
    ⟨some 24, none, .app 1 8 [.int .i64 0] (.tmp 21) (.tmp 23)⟩,
    ⟨none, none, .store 1 (.tmp 3) (.tmp 24)⟩])) (.skip))))
theorem t149 : Try.f149.body.bind (trC e149) = some c149 := by kernel_rfl
theorem r149 : Try.f149.results.toList.mapM (trR Try.prog) = some [] := by kernel_rfl
theorem fn149 {args : List Value} {M : Mem} {post : Value → Mem → Prop} (hl : args.length ≤ 25) (h : VC e149 c149 (fnQ [] post) (initS args 25) M) : Fn Try.prog 149 args M post :=
  Fn.of' (E := e149) Try.func149 t149 rfl r149 mixed hl h
/-! (*impl.Heap).holds$1 -/
noncomputable def e152 : Env := ⟨Try.prog, [4, 23], 25, []⟩
noncomputable def c152 : C :=
  .seq (.reg [
    ⟨some 4, none, .box true (.tmp 0)⟩]) (.seq (.reg [
    ⟨some 6, none, .load true 1 (.tmp 1)⟩,
    ⟨some 7, none, .load false 3 (.tmp 4)⟩,
    ⟨some 8, none, .call 150 [.tmp 6, .tmp 7]⟩,
    ⟨some 5, none, .mov (.tmp 8)⟩]) (.seq (.reg [
    ⟨some 9, none, .mov (.tmp 5)⟩,
    ⟨some 10, none, .bin .geq (.tmp 9) (.const (.int .i64 0))⟩,
    ⟨some 11, none, .mov (.tmp 10)⟩,
    ⟨some 12, some (11, true), .load true 1 (.tmp 2)⟩,
    ⟨some 13, some (11, true), .mov (.tmp 5)⟩,
    ⟨some 14, some (11, true), .iaddr 1 (.tmp 12) (.tmp 13)⟩,
    ⟨some 15, some (11, true), .load true 1 (.tmp 14)⟩,
    ⟨some 16, some (11, true), .not (.tmp 15)⟩,
    ⟨some 17, none, .pick (.tmp 11) (.tmp 16) (.const (.bool false))⟩]) (.cond (.tmp 17) (.seq (.reg [
    ⟨some 18, none, .load true 1 (.tmp 2)⟩,
    ⟨some 19, none, .mov (.tmp 5)⟩,
    ⟨some 20, none, .iaddr 1 (.tmp 18) (.tmp 19)⟩,
    ⟨none, none, .store 1 (.tmp 20) (.const (.bool true))⟩]) (.reg [
    ⟨some 21, none, .load true 1 (.tmp 3)⟩,
    ⟨some 22, none, .mov (.tmp 5)⟩,
    ⟨some 23, none, .bslice true 1 1 [.int .i64 0] [(0, 1, .tmp 22)]⟩,
    ⟨some 24, none, .app 1 8 [.int .i64 0] (.tmp 21) (.tmp 23)⟩,
    ⟨none, none, .store 1 (.tmp 3) (.tmp 24)⟩])) (.skip))))
theorem t152 : Try.f152.body.bind (trC e152) = some c152 := by kernel_rfl
theorem r152 : Try.f152.results.toList.mapM (trR Try.prog) = some [] := by kernel_rfl
theorem fn152 {args : List Value} {M : Mem} {post : Value → Mem → Prop} (hl : args.length ≤ 25) (h : VC e152 c152 (fnQ [] post) (initS args 25) M) : Fn Try.prog 152 args M post :=
  Fn.of' (E := e152) Try.func152 t152 rfl r152 mixed hl h
/-! (*impl.Heap).sum -/
noncomputable def e111 : Env := ⟨Try.prog, [7], 28, []⟩
noncomputable def c111 : C :=
  .seq (.reg [
    ⟨some 4, none, .mov (.const (.int .i64 0))⟩]) (.seq (.reg [
    ⟨some 5, none, .mov (.const (.int .i64 0))⟩]) (.seq (.seq (.reg [
    ⟨some 8, none, .mov (.tmp 0)⟩,
    ⟨some 9, none, .nilCheck (.tmp 8)⟩,
    ⟨some 10, none, .faddr 4 (.tmp 9)⟩,
    ⟨some 11, none, .load true 1 (.tmp 10)⟩,
    ⟨some 12, none, .lenS (.tmp 11)⟩,
    ⟨some 13, none, .mov (.const (.int .i64 0))⟩]) (.block 0 (.loop (.seq (.reg [
    ⟨some 14, none, .bin .lss (.tmp 13) (.tmp 12)⟩]) (.seq (.cond (.tmp 14) (.skip) (.exit 0)) (.seq (.block 1 (.seq (.reg [
    ⟨some 15, none, .mov (.tmp 13)⟩,
    ⟨some 16, none, .iaddr 8 (.tmp 11) (.tmp 13)⟩,
    ⟨some 17, none, .load false 8 (.tmp 16)⟩,
    ⟨some 7, none, .alloc true [.int .i64 0, .int .i64 0, .int .i64 0, .int .i64 0, .int .i64 0, .int .i64 0, .int .i64 0, .slice none 0 0]⟩,
    ⟨some 6, none, .mov (.tmp 15)⟩,
    ⟨none, none, .store 8 (.tmp 7) (.tmp 17)⟩]) (.seq (.reg [
    ⟨some 18, none, .mov (.tmp 1)⟩,
    ⟨some 19, none, .mov (.tmp 6)⟩,
    ⟨some 20, none, .iaddr 1 (.tmp 18) (.tmp 19)⟩,
    ⟨some 21, none, .load true 1 (.tmp 20)⟩]) (.cond (.tmp 21) (.reg [
    ⟨some 22, none, .mov (.tmp 5)⟩,
    ⟨some 23, none, .load false 8 (.tmp 7)⟩,
    ⟨some 24, none, .call 142 [.tmp 23]⟩,
    ⟨some 25, none, .bin .add (.tmp 22) (.tmp 24)⟩,
    ⟨some 5, none, .mov (.tmp 25)⟩]) (.skip))))) (.reg [
    ⟨some 26, none, .bin .add (.tmp 13) (.const (.int .i64 1))⟩,
    ⟨some 13, none, .mov (.tmp 26)⟩]))))))) (.seq (.reg [
    ⟨some 27, none, .mov (.tmp 5)⟩,
    ⟨some 4, none, .mov (.tmp 27)⟩]) (.ret))))
theorem t111 : Try.f111.body.bind (trC e111) = some c111 := by kernel_rfl
theorem r111 : Try.f111.results.toList.mapM (trR Try.prog) = some [.tmp 4] := by kernel_rfl
theorem fn111 {args : List Value} {M : Mem} {post : Value → Mem → Prop} (hl : args.length ≤ 28) (h : VC e111 c111 (fnQ [.tmp 4] post) (initS args 28) M) : Fn Try.prog 111 args M post :=
  Fn.of' (E := e111) Try.func111 t111 rfl r111 mixed hl h
/-! impl.Live -/
noncomputable def e41 : Env := ⟨Try.prog, [], 8, []⟩
noncomputable def c41 : C :=
  .seq (.reg [
    ⟨some 1, none, .box false (.tmp 0)⟩,
    ⟨some 2, none, .mov (.const (.int .i64 0))⟩]) (.seq (.seq (.reg [
    ⟨some 3, none, .load false 13 (.tmp 1)⟩,
    ⟨some 4, none, .call 105 [.tmp 3]⟩,
    ⟨some 5, none, .not (.tmp 4)⟩]) (.cond (.tmp 5) (.seq (.reg [
    ⟨some 2, none, .mov (.const (.int .i64 0))⟩]) (.ret)) (.skip))) (.seq (.reg [
    ⟨some 6, none, .call 112 [.tmp 1]⟩,
    ⟨some 7, none, .call 111 [.tmp 1, .tmp 6]⟩,
    ⟨some 2, none, .mov (.tmp 7)⟩]) (.ret)))
theorem t41 : Try.f41.body.bind (trC e41) = some c41 := by kernel_rfl
theorem r41 : Try.f41.results.toList.mapM (trR Try.prog) = some [.tmp 2] := by kernel_rfl
theorem fn41 {args : List Value} {M : Mem} {post : Value → Mem → Prop} (hl : args.length ≤ 8) (h : VC e41 c41 (fnQ [.tmp 2] post) (initS args 8) M) : Fn Try.prog 41 args M post :=
  Fn.of' (E := e41) Try.func41 t41 rfl r41 mixed hl h
/-! spec.l2mark -/
noncomputable def e151 : Env := ⟨Try.prog, [7, 9, 31], 33, []⟩
noncomputable def c151 : C :=
  .seq (.reg [
    ⟨some 7, none, .box true (.tmp 3)⟩,
    ⟨some 8, none, .mov (.const (.slice none 0 0))⟩]) (.seq (.reg [
    ⟨some 10, none, .mov (.tmp 0)⟩,
    ⟨some 11, none, .load false 3 (.tmp 7)⟩,
    ⟨some 12, none, .call 104 [.tmp 10, .tmp 11]⟩,
    ⟨some 9, none, .alloc true [.int .i64 0, .int .i64 0, .int .i64 0]⟩,
    ⟨none, none, .store 3 (.tmp 9) (.tmp 12)⟩]) (.seq (.seq (.reg [
    ⟨some 13, none, .faddr 0 (.tmp 9)⟩,
    ⟨some 14, none, .load true 1 (.tmp 13)⟩,
    ⟨some 15, none, .bin .neq (.tmp 14) (.const (.int .i64 2))⟩,
    ⟨some 16, none, .mov (.tmp 15)⟩,
    ⟨some 17, some (16, false), .mov (.tmp 1)⟩,
    ⟨some 18, some (16, false), .faddr 2 (.tmp 9)⟩,
    ⟨some 19, some (16, false), .load true 1 (.tmp 18)⟩,
    ⟨some 20, some (16, false), .iaddr 1 (.tmp 17) (.tmp 19)⟩,
    ⟨some 21, some (16, false), .load true 1 (.tmp 20)⟩,
    ⟨some 22, none, .pick (.tmp 16) (.const (.bool true)) (.tmp 21)⟩]) (.cond (.tmp 22) (.seq (.reg [
    ⟨some 23, none, .mov (.tmp 2)⟩,
    ⟨some 8, none, .mov (.tmp 23)⟩]) (.ret)) (.skip))) (.seq (.reg [
    ⟨some 24, none, .mov (.tmp 1)⟩,
    ⟨some 25, none, .faddr 2 (.tmp 9)⟩,
    ⟨some 26, none, .load true 1 (.tmp 25)⟩,
    ⟨some 27, none, .iaddr 1 (.tmp 24) (.tmp 26)⟩,
    ⟨none, none, .store 1 (.tmp 27) (.const (.bool true))⟩]) (.seq (.reg [
    ⟨some 28, none, .mov (.tmp 2)⟩,
    ⟨some 29, none, .faddr 2 (.tmp 9)⟩,
    ⟨some 30, none, .load true 1 (.tmp 29)⟩,
    ⟨some 31, none, .bslice true 1 1 [.int .i64 0] [(0, 1, .tmp 30)]⟩,
    ⟨some 32, none, .app 1 8 [.int .i64 0] (.tmp 28) (.tmp 31)⟩,
    ⟨some 8, none, .mov (.tmp 32)⟩]) (.ret)))))
theorem t151 : Try.f151.body.bind (trC e151) = some c151 := by kernel_rfl
theorem r151 : Try.f151.results.toList.mapM (trR Try.prog) = some [.tmp 8] := by kernel_rfl
theorem fn151 {args : List Value} {M : Mem} {post : Value → Mem → Prop} (hl : args.length ≤ 33) (h : VC e151 c151 (fnQ [.tmp 8] post) (initS args 33) M) : Fn Try.prog 151 args M post :=
  Fn.of' (E := e151) Try.func151 t151 rfl r151 mixed hl h
/-! spec.l2wants -/
noncomputable def e153 : Env := ⟨Try.prog, [5, 34], 89, [(8, 28)]⟩
noncomputable def c153 : C :=
  .seq (.reg [
    ⟨some 2, none, .mov (.const (.slice none 0 0))⟩]) (.seq (.reg [
    ⟨some 3, none, .mov (.const (.slice none 0 0))⟩]) (.seq (.seq (.reg [
    ⟨some 9, none, .mov (.tmp 0)⟩,
    ⟨some 10, none, .nilCheck (.tmp 9)⟩,
    ⟨some 11, none, .faddr 4 (.tmp 10)⟩,
    ⟨some 12, none, .load true 1 (.tmp 11)⟩,
    ⟨some 13, none, .lenS (.tmp 12)⟩,
    ⟨some 14, none, .mov (.const (.int .i64 0))⟩]) (.block 0 (.loop (.seq (.reg [
    ⟨some 15, none, .bin .lss (.tmp 14) (.tmp 13)⟩]) (.seq (.cond (.tmp 15) (.skip) (.exit 0)) (.seq (.block 1 (.seq (.reg [
    ⟨some 16, none, .mov (.tmp 14)⟩,
    ⟨some 17, none, .iaddr 8 (.tmp 12) (.tmp 14)⟩,
    ⟨some 18, none, .load false 8 (.tmp 17)⟩,
    ⟨some 5, none, .alloc true [.int .i64 0, .int .i64 0, .int .i64 0, .int .i64 0, .int .i64 0, .int .i64 0, .int .i64 0, .slice none 0 0]⟩,
    ⟨some 4, none, .mov (.tmp 16)⟩,
    ⟨none, none, .store 8 (.tmp 5) (.tmp 18)⟩]) (.seq (.seq (.reg [
    ⟨some 19, none, .faddr 0 (.tmp 5)⟩,
    ⟨some 20, none, .load true 1 (.tmp 19)⟩,
    ⟨some 21, none, .bin .neq (.tmp 20) (.const (.int .i64 1))⟩,
    ⟨some 22, none, .mov (.tmp 21)⟩,
    ⟨some 23, some (22, false), .faddr 3 (.tmp 5)⟩,
    ⟨some 24, some (22, false), .load true 1 (.tmp 23)⟩,
    ⟨some 25, some (22, false), .bin .neq (.tmp 24) (.const (.int .i64 1))⟩,
    ⟨some 26, some (22, false), .mov (.tmp 25)⟩,
    ⟨some 27, some (26, true), .faddr 3 (.tmp 5)⟩,
    ⟨some 28, some (26, true), .load true 1 (.tmp 27)⟩,
    ⟨some 29, some (26, true), .bin .neq (.tmp 28) (.const (.int .i64 2))⟩,
    ⟨some 30, some (22, false), .pick (.tmp 26) (.tmp 29) (.const (.bool false))⟩,
    ⟨some 31, none, .pick (.tmp 22) (.const (.bool true)) (.tmp 30)⟩]) (.cond (.tmp 31) (.exit 1) (.skip))) (.seq (.reg [
    ⟨some 32, none, .mov (.tmp 3)⟩,
    ⟨some 33, none, .mov (.tmp 4)⟩,
    ⟨some 34, none, .bslice true 1 1 [.int .i64 0] [(0, 1, .tmp 33)]⟩,
    ⟨some 35, none, .app 1 8 [.int .i64 0] (.tmp 32) (.tmp 34)⟩,
    ⟨some 3, none, .mov (.tmp 35)⟩]) (.seq (.reg [
    ⟨some 36, none, .mov (.tmp 3)⟩,
    ⟨some 37, none, .lenS (.tmp 36)⟩,
    ⟨some 38, none, .bin .sub (.tmp 37) (.const (.int .i64 1))⟩,
    ⟨some 6, none, .mov (.tmp 38)⟩]) (.block 2 (.loop (.seq (.seq (.dreg 28 [
    ⟨some 39, none, .mov (.tmp 6)⟩,
    ⟨some 40, none, .bin .gtr (.tmp 39) (.const (.int .i64 0))⟩,
    ⟨some 41, none, .mov (.tmp 40)⟩,
    ⟨some 42, some (41, true), .mov (.tmp 0)⟩,
    ⟨some 43, some (41, true), .nilCheck (.tmp 42)⟩,
    ⟨some 44, some (41, true), .faddr 4 (.tmp 43)⟩,
    ⟨some 45, some (41, true), .load true 1 (.tmp 44)⟩,
    ⟨some 46, some (41, true), .mov (.tmp 3)⟩,
    ⟨some 47, some (41, true), .mov (.tmp 6)⟩,
    ⟨some 48, some (41, true), .bin .sub (.tmp 47) (.const (.int .i64 1))⟩,
    ⟨some 49, some (41, true), .iaddr 1 (.tmp 46) (.tmp 48)⟩,
    ⟨some 50, some (41, true), .load true 1 (.tmp 49)⟩,
    ⟨some 51, some (41, true), .iaddr 8 (.tmp 45) (.tmp 50)⟩,
    ⟨some 52, some (41, true), .faddr 4 (.tmp 51)⟩,
    ⟨some 53, some (41, true), .load true 1 (.tmp 52)⟩,
    ⟨some 54, some (41, true), .mov (.tmp 0)⟩,
    ⟨some 55, some (41, true), .nilCheck (.tmp 54)⟩,
    ⟨some 56, some (41, true), .faddr 4 (.tmp 55)⟩,
    ⟨some 57, some (41, true), .load true 1 (.tmp 56)⟩,
    ⟨some 58, some (41, true), .mov (.tmp 3)⟩,
    ⟨some 59, some (41, true), .mov (.tmp 6)⟩,
    ⟨some 60, some (41, true), .iaddr 1 (.tmp 58) (.tmp 59)⟩,
    ⟨some 61, some (41, true), .load true 1 (.tmp 60)⟩,
    ⟨some 62, some (41, true), .iaddr 8 (.tmp 57) (.tmp 61)⟩,
    ⟨some 63, some (41, true), .faddr 4 (.tmp 62)⟩,
    ⟨some 64, some (41, true), .load true 1 (.tmp 63)⟩,
    ⟨some 65, some (41, true), .bin .gtr (.tmp 53) (.tmp 64)⟩,
    ⟨some 66, none, .pick (.tmp 41) (.tmp 65) (.const (.bool false))⟩]) (.cond (.tmp 66) (.skip) (.exit 2))) (.seq (.block 3 (.seq (.reg [
    ⟨some 69, none, .mov (.tmp 3)⟩,
    ⟨some 70, none, .mov (.tmp 6)⟩,
    ⟨some 71, none, .bin .sub (.tmp 70) (.const (.int .i64 1))⟩,
    ⟨some 72, none, .iaddr 1 (.tmp 69) (.tmp 71)⟩,
    ⟨some 73, none, .load true 1 (.tmp 72)⟩,
    ⟨some 7, none, .mov (.tmp 73)⟩]) (.seq (.reg [
    ⟨some 74, none, .mov (.tmp 3)⟩,
    ⟨some 75, none, .mov (.tmp 6)⟩,
    ⟨some 76, none, .iaddr 1 (.tmp 74) (.tmp 75)⟩,
    ⟨some 77, none, .load true 1 (.tmp 76)⟩,
    ⟨some 8, none, .mov (.tmp 77)⟩]) (.seq (.reg [
    ⟨some 78, none, .mov (.tmp 3)⟩,
    ⟨some 79, none, .mov (.tmp 6)⟩,
    ⟨some 80, none, .bin .sub (.tmp 79) (.const (.int .i64 1))⟩,
    ⟨some 81, none, .mov (.tmp 8)⟩,
    ⟨some 82, none, .iaddr 1 (.tmp 78) (.tmp 80)⟩,
    ⟨none, none, .store 1 (.tmp 82) (.tmp 81)⟩]) (.reg [
    ⟨some 83, none, .mov (.tmp 3)⟩,
    ⟨some 84, none, .mov (.tmp 6)⟩,
    ⟨some 85, none, .mov (.tmp 7)⟩,
    ⟨some 86, none, .iaddr 1 (.tmp 83) (.tmp 84)⟩,
    ⟨none, none, .store 1 (.tmp 86) (.tmp 85)⟩]))))) (.reg [
    ⟨some 67, none, .mov (.tmp 6)⟩,
    ⟨some 68, none, .bin .sub (.tmp 67) (.const (.int .i64 1))⟩,
    ⟨some 6, none, .mov (.tmp 68)⟩])))))))))) (.reg [
    ⟨some 87, none, .bin .add (.tmp 14) (.const (.int .i64 1))⟩,
    ⟨some 14, none, .mov (.tmp 87)⟩]))))))) (.seq (.reg [
    ⟨some 88, none, .mov (.tmp 3)⟩,
    ⟨some 2, none, .mov (.tmp 88)⟩]) (.ret))))
theorem t153 : Try.f153.body.bind (trC e153) = some c153 := by kernel_rfl
theorem r153 : Try.f153.results.toList.mapM (trR Try.prog) = some [.tmp 2] := by kernel_rfl
theorem fn153 {args : List Value} {M : Mem} {post : Value → Mem → Prop} (hl : args.length ≤ 89) (h : VC e153 c153 (fnQ [.tmp 2] post) (initS args 89) M) : Fn Try.prog 153 args M post :=
  Fn.of' (E := e153) Try.func153 t153 rfl r153 mixed hl h
/-! spec.l2reach -/
noncomputable def e116 : Env := ⟨Try.prog, [7, 12], 85, [(16, 13)]⟩
noncomputable def c116 : C :=
  .seq (.reg [
    ⟨some 2, none, .mov (.const (.slice none 0 0))⟩,
    ⟨some 3, none, .mov (.const (.slice none 0 0))⟩]) (.seq (.reg [
    ⟨some 13, none, .mov (.tmp 0)⟩,
    ⟨some 14, none, .nilCheck (.tmp 13)⟩,
    ⟨some 15, none, .faddr 4 (.tmp 14)⟩,
    ⟨some 16, none, .load true 1 (.tmp 15)⟩,
    ⟨some 17, none, .lenS (.tmp 16)⟩,
    ⟨some 18, none, .mkslice 1 1 [.bool false] (.tmp 17) (.tmp 17)⟩,
    ⟨some 4, none, .mov (.tmp 18)⟩]) (.seq (.reg [
    ⟨some 5, none, .mov (.const (.slice none 0 0))⟩]) (.seq (.seq (.reg [
    ⟨some 19, none, .mov (.tmp 0)⟩,
    ⟨some 20, none, .nilCheck (.tmp 19)⟩,
    ⟨some 21, none, .faddr 3 (.tmp 20)⟩,
    ⟨some 22, none, .load true 1 (.tmp 21)⟩,
    ⟨some 23, none, .lenS (.tmp 22)⟩,
    ⟨some 24, none, .mov (.const (.int .i64 0))⟩]) (.block 0 (.loop (.seq (.reg [
    ⟨some 25, none, .bin .lss (.tmp 24) (.tmp 23)⟩]) (.seq (.cond (.tmp 25) (.skip) (.exit 0)) (.seq (.block 1 (.seq (.reg [
    ⟨some 26, none, .iaddr 3 (.tmp 22) (.tmp 24)⟩,
    ⟨some 27, none, .load false 3 (.tmp 26)⟩,
    ⟨some 7, none, .alloc true [.int .i64 0, .int .i64 0, .int .i64 0]⟩,
    ⟨none, none, .store 3 (.tmp 7) (.tmp 27)⟩]) (.reg [
    ⟨some 28, none, .mov (.tmp 0)⟩,
    ⟨some 29, none, .mov (.tmp 4)⟩,
    ⟨some 30, none, .mov (.tmp 5)⟩,
    ⟨some 31, none, .load false 3 (.tmp 7)⟩,
    ⟨some 32, none, .call 151 [.tmp 28, .tmp 29, .tmp 30, .tmp 31]⟩,
    ⟨some 5, none, .mov (.tmp 32)⟩]))) (.reg [
    ⟨some 33, none, .bin .add (.tmp 24) (.const (.int .i64 1))⟩,
    ⟨some 24, none, .mov (.tmp 33)⟩]))))))) (.seq (.seq (.reg [
    ⟨some 34, none, .mov (.tmp 0)⟩,
    ⟨some 35, none, .call 153 [.tmp 34]⟩,
    ⟨some 36, none, .lenS (.tmp 35)⟩,
    ⟨some 37, none, .mov (.const (.int .i64 0))⟩]) (.block 2 (.loop (.seq (.reg [
    ⟨some 38, none, .bin .lss (.tmp 37) (.tmp 36)⟩]) (.seq (.cond (.tmp 38) (.skip) (.exit 2)) (.seq (.block 3 (.seq (.reg [
    ⟨some 39, none, .iaddr 1 (.tmp 35) (.tmp 37)⟩,
    ⟨some 40, none, .load true 1 (.tmp 39)⟩,
    ⟨some 9, none, .mov (.tmp 40)⟩]) (.reg [
    ⟨some 41, none, .mov (.tmp 0)⟩,
    ⟨some 42, none, .mov (.tmp 4)⟩,
    ⟨some 43, none, .mov (.tmp 5)⟩,
    ⟨some 44, none, .mov (.tmp 9)⟩,
    ⟨some 45, none, .build [.int .i64 0, .int .i64 0, .int .i64 0] [(0, 1, .const (.int .i64 2)), (2, 1, .tmp 44)]⟩,
    ⟨some 46, none, .call 151 [.tmp 41, .tmp 42, .tmp 43, .tmp 45]⟩,
    ⟨some 5, none, .mov (.tmp 46)⟩]))) (.reg [
    ⟨some 47, none, .bin .add (.tmp 37) (.const (.int .i64 1))⟩,
    ⟨some 37, none, .mov (.tmp 47)⟩]))))))) (.seq (.seq (.reg [
    ⟨some 10, none, .mov (.const (.int .i64 0))⟩]) (.block 4 (.loop (.seq (.seq (.reg [
    ⟨some 48, none, .mov (.tmp 10)⟩,
    ⟨some 49, none, .mov (.tmp 5)⟩,
    ⟨some 50, none, .lenS (.tmp 49)⟩,
    ⟨some 51, none, .bin .lss (.tmp 48) (.tmp 50)⟩]) (.cond (.tmp 51) (.skip) (.exit 4))) (.seq (.block 5 (.seq (.dreg 13 [
    ⟨some 54, none, .mov (.tmp 0)⟩,
    ⟨some 55, none, .nilCheck (.tmp 54)⟩,
    ⟨some 56, none, .faddr 4 (.tmp 55)⟩,
    ⟨some 57, none, .load true 1 (.tmp 56)⟩,
    ⟨some 58, none, .mov (.tmp 5)⟩,
    ⟨some 59, none, .mov (.tmp 10)⟩,
    ⟨some 60, none, .iaddr 1 (.tmp 58) (.tmp 59)⟩,
    ⟨some 61, none, .load true 1 (.tmp 60)⟩,
    ⟨some 62, none, .iaddr 8 (.tmp 57) (.tmp 61)⟩,
    ⟨some 63, none, .faddr 7 (.tmp 62)⟩,
    ⟨some 64, none, .load true 1 (.tmp 63)⟩,
    ⟨some 65, none, .lenS (.tmp 64)⟩,
    ⟨some 66, none, .mov (.const (.int .i64 0))⟩]) (.block 6 (.loop (.seq (.reg [
    ⟨some 67, none, .bin .lss (.tmp 66) (.tmp 65)⟩]) (.seq (.cond (.tmp 67) (.skip) (.exit 6)) (.seq (.block 7 (.seq (.reg [
    ⟨some 68, none, .iaddr 6 (.tmp 64) (.tmp 66)⟩,
    ⟨some 69, none, .load false 6 (.tmp 68)⟩,
    ⟨some 12, none, .alloc true [.int .i64 0, .int .i64 0, .int .i64 0, .int .i64 0, .int .i64 0, .int .i64 0]⟩,
    ⟨none, none, .store 6 (.tmp 12) (.tmp 69)⟩]) (.seq (.reg [
    ⟨some 70, none, .mov (.tmp 0)⟩,
    ⟨some 71, none, .mov (.tmp 4)⟩,
    ⟨some 72, none, .mov (.tmp 5)⟩,
    ⟨some 73, none, .faddr 0 (.tmp 12)⟩,
    ⟨some 74, none, .load false 3 (.tmp 73)⟩,
    ⟨some 75, none, .call 151 [.tmp 70, .tmp 71, .tmp 72, .tmp 74]⟩,
    ⟨some 5, none, .mov (.tmp 75)⟩]) (.reg [
    ⟨some 76, none, .mov (.tmp 0)⟩,
    ⟨some 77, none, .mov (.tmp 4)⟩,
    ⟨some 78, none, .mov (.tmp 5)⟩,
    ⟨some 79, none, .faddr 3 (.tmp 12)⟩,
    ⟨some 80, none, .load false 3 (.tmp 79)⟩,
    ⟨some 81, none, .call 151 [.tmp 76, .tmp 77, .tmp 78, .tmp 80]⟩,
    ⟨some 5, none, .mov (.tmp 81)⟩])))) (.reg [
    ⟨some 82, none, .bin .add (.tmp 66) (.const (.int .i64 1))⟩,
    ⟨some 66, none, .mov (.tmp 82)⟩])))))))) (.reg [
    ⟨some 52, none, .mov (.tmp 10)⟩,
    ⟨some 53, none, .bin .add (.tmp 52) (.const (.int .i64 1))⟩,
    ⟨some 10, none, .mov (.tmp 53)⟩])))))) (.seq (.reg [
    ⟨some 83, none, .mov (.tmp 4)⟩,
    ⟨some 84, none, .mov (.tmp 5)⟩,
    ⟨some 2, none, .mov (.tmp 83)⟩,
    ⟨some 3, none, .mov (.tmp 84)⟩]) (.ret)))))))
theorem t116 : Try.f116.body.bind (trC e116) = some c116 := by kernel_rfl
theorem r116 : Try.f116.results.toList.mapM (trR Try.prog) = some [.tmp 2, .tmp 3] := by kernel_rfl
theorem fn116 {args : List Value} {M : Mem} {post : Value → Mem → Prop} (hl : args.length ≤ 85) (h : VC e116 c116 (fnQ [.tmp 2, .tmp 3] post) (initS args 85) M) : Fn Try.prog 116 args M post :=
  Fn.of' (E := e116) Try.func116 t116 rfl r116 mixed hl h
/-! spec.l2sum -/
noncomputable def e113 : Env := ⟨Try.prog, [], 30, []⟩
noncomputable def c113 : C :=
  .seq (.reg [
    ⟨some 4, none, .mov (.const (.int .i64 0))⟩]) (.seq (.reg [
    ⟨some 5, none, .mov (.const (.int .i64 0))⟩]) (.seq (.seq (.reg [
    ⟨some 8, none, .mov (.tmp 1)⟩,
    ⟨some 9, none, .lenS (.tmp 8)⟩,
    ⟨some 10, none, .mov (.const (.int .i64 0))⟩]) (.block 0 (.loop (.seq (.reg [
    ⟨some 11, none, .bin .lss (.tmp 10) (.tmp 9)⟩]) (.seq (.cond (.tmp 11) (.skip) (.exit 0)) (.seq (.block 1 (.seq (.reg [
    ⟨some 12, none, .mov (.tmp 10)⟩,
    ⟨some 13, none, .iaddr 1 (.tmp 8) (.tmp 10)⟩,
    ⟨some 14, none, .load true 1 (.tmp 13)⟩,
    ⟨some 6, none, .mov (.tmp 12)⟩,
    ⟨some 7, none, .mov (.tmp 14)⟩]) (.seq (.reg [
    ⟨some 15, none, .mov (.tmp 7)⟩]) (.cond (.tmp 15) (.reg [
    ⟨some 16, none, .mov (.tmp 5)⟩,
    ⟨some 17, none, .mov (.tmp 0)⟩,
    ⟨some 18, none, .nilCheck (.tmp 17)⟩,
    ⟨some 19, none, .faddr 4 (.tmp 18)⟩,
    ⟨some 20, none, .load true 1 (.tmp 19)⟩,
    ⟨some 21, none, .mov (.tmp 6)⟩,
    ⟨some 22, none, .iaddr 8 (.tmp 20) (.tmp 21)⟩,
    ⟨some 23, none, .faddr 7 (.tmp 22)⟩,
    ⟨some 24, none, .load true 1 (.tmp 23)⟩,
    ⟨some 25, none, .lenS (.tmp 24)⟩,
    ⟨some 26, none, .bin .add (.const (.int .i64 1)) (.tmp 25)⟩,
    ⟨some 27, none, .bin .add (.tmp 16) (.tmp 26)⟩,
    ⟨some 5, none, .mov (.tmp 27)⟩]) (.skip))))) (.reg [
    ⟨some 28, none, .bin .add (.tmp 10) (.const (.int .i64 1))⟩,
    ⟨some 10, none, .mov (.tmp 28)⟩]))))))) (.seq (.reg [
    ⟨some 29, none, .mov (.tmp 5)⟩,
    ⟨some 4, none, .mov (.tmp 29)⟩]) (.ret))))
theorem t113 : Try.f113.body.bind (trC e113) = some c113 := by kernel_rfl
theorem r113 : Try.f113.results.toList.mapM (trR Try.prog) = some [.tmp 4] := by kernel_rfl
theorem fn113 {args : List Value} {M : Mem} {post : Value → Mem → Prop} (hl : args.length ≤ 30) (h : VC e113 c113 (fnQ [.tmp 4] post) (initS args 30) M) : Fn Try.prog 113 args M post :=
  Fn.of' (E := e113) Try.func113 t113 rfl r113 mixed hl h
/-! spec.l2live -/
noncomputable def e110 : Env := ⟨Try.prog, [], 13, []⟩
noncomputable def c110 : C :=
  .seq (.reg [
    ⟨some 2, none, .mov (.const (.int .i64 0))⟩]) (.seq (.reg [
    ⟨some 6, none, .mov (.tmp 0)⟩,
    ⟨some 7, none, .call 116 [.tmp 6]⟩,
    ⟨some 5, none, .mov (.tmp 7)⟩,
    ⟨some 8, none, .ext (.tmp 5) 0⟩,
    ⟨some 9, none, .ext (.tmp 5) 1⟩,
    ⟨some 3, none, .mov (.tmp 8)⟩,
    ⟨some 4, none, .mov (.tmp 9)⟩]) (.seq (.reg [
    ⟨some 10, none, .mov (.tmp 0)⟩,
    ⟨some 11, none, .mov (.tmp 3)⟩,
    ⟨some 12, none, .call 113 [.tmp 10, .tmp 11]⟩,
    ⟨some 2, none, .mov (.tmp 12)⟩]) (.ret)))
theorem t110 : Try.f110.body.bind (trC e110) = some c110 := by kernel_rfl
theorem r110 : Try.f110.results.toList.mapM (trR Try.prog) = some [.tmp 2] := by kernel_rfl
theorem fn110 {args : List Value} {M : Mem} {post : Value → Mem → Prop} (hl : args.length ≤ 13) (h : VC e110 c110 (fnQ [.tmp 2] post) (initS args 13) M) : Fn Try.prog 110 args M post :=
  Fn.of' (E := e110) Try.func110 t110 rfl r110 mixed hl h
/-! spec.Live -/
noncomputable def e40 : Env := ⟨Try.prog, [], 7, []⟩
noncomputable def c40 : C :=
  .seq (.reg [
    ⟨some 1, none, .box false (.tmp 0)⟩,
    ⟨some 2, none, .mov (.const (.int .i64 0))⟩]) (.seq (.seq (.reg [
    ⟨some 3, none, .load false 13 (.tmp 1)⟩,
    ⟨some 4, none, .call 31 [.tmp 3]⟩,
    ⟨some 5, none, .bin .neq (.tmp 4) (.const (.int .i64 0))⟩]) (.cond (.tmp 5) (.seq (.reg [
    ⟨some 2, none, .mov (.const (.int .i64 0))⟩]) (.ret)) (.skip))) (.seq (.reg [
    ⟨some 6, none, .call 110 [.tmp 1]⟩,
    ⟨some 2, none, .mov (.tmp 6)⟩]) (.ret)))
theorem t40 : Try.f40.body.bind (trC e40) = some c40 := by kernel_rfl
theorem r40 : Try.f40.results.toList.mapM (trR Try.prog) = some [.tmp 2] := by kernel_rfl
theorem fn40 {args : List Value} {M : Mem} {post : Value → Mem → Prop} (hl : args.length ≤ 7) (h : VC e40 c40 (fnQ [.tmp 2] post) (initS args 7) M) : Fn Try.prog 40 args M post :=
  Fn.of' (E := e40) Try.func40 t40 rfl r40 mixed hl h
end Go.Proofs.Ytcmllambknfleaa.E
/- What is reached, in plain words; one word marked. Conditions: none. -/
set_option linter.unusedVariables false
set_option linter.unusedSimpArgs false
namespace Go.Proofs.Ytcmllambknfleaa.E
open Go
open Classical
/-- where a word leads, if it leads to a cell -/
def Heap.tgt (H : Heap) (w : Word) : Option Nat := if (H.lead w).kind = 2 then some (H.lead w).at_.toNat else none
inductive Reached (H : Heap) : Nat → Prop
  | reg {w : Word} {j : Nat} : w ∈ H.regs → H.tgt w = some j → Reached H j
  | root {i : Nat} {c : Cell} : H.cells[i]? = some c → Root c → Reached H i
  | pair {i j : Nat} {c : Cell} {p : Pair} {w : Word} : Reached H i → H.cells[i]? = some c → p ∈ c.pairs → (w = p.key ∨ w = p.val) → H.tgt w = some j → Reached H j
theorem lead_kind {H : Heap} {w : Word} : (H.lead w).kind = 2 ↔ w.kind = 2 := by
  unfold Heap.lead
  split
  · rename_i h; simp [h.1]
  · rfl
theorem lead_at {H : Heap} (h : R2 H) {w : Word} (hf : Formed H w) (hk : w.kind = 2) : 0 ≤ (H.lead w).at_ ∧ (H.lead w).at_ < H.cells.length := by
  have hat := hf.at hk
  unfold Heap.lead
  split
  · rename_i hc
    obtain ⟨c, hcc⟩ : ∃ c, H.cells[w.at_.toNat]? = some c := ⟨_, List.getElem?_eq_getElem (by omega)⟩
    have hg : H.getC w.at_ = c := by unfold Heap.getC; simp [hcc]
    have hcc' := hcc
    rcases h.each _ c hcc with h1 | h1 | h1
    · rw [hg] at hc; have := h1.1; omega
    · rw [hg]
      have := h1.2.2.2.1
      simp only at this ⊢
      omega
    · rw [hg] at hc; have := h1.1; omega
  · exact hat
theorem tgt_lt {H : Heap} (h : R2 H) {w : Word} (hf : Formed H w) {j : Nat} (ht : H.tgt w = some j) : j < H.cells.length ∧ (H.lead w).kind = 2 ∧ (H.lead w).at_ = j := by
  unfold Heap.tgt at ht
  split at ht
  · rename_i hk
    simp only [Option.some.injEq] at ht
    have := lead_at h hf (lead_kind.1 hk)
    exact ⟨by omega, hk, by omega⟩
  · cases ht
/-- one word marked: what is seen, what is to be gone through -/
def mkW (H : Heap) (s : List Bool × List Int) (w : Word) : List Bool × List Int :=
  match H.tgt w with
  | some j => if s.1[j]? = some false then (s.1.set j true, s.2 ++ [(j : Int)]) else s
  | none => s
def Hit (H : Heap) (seen : List Bool) (w : Word) : Prop := ∀ j, H.tgt w = some j → seen[j]? = some true
structure Mk (H : Heap) (S : Nat → Prop) (s : List Bool × List Int) : Prop where
  len : s.1.length = H.cells.length
  snd : ∀ j, s.1[j]? = some true → S j
  stk : ∀ g, g ∈ s.2 → ∃ j : Nat, g = j ∧ s.1[j]? = some true
  cnt : s.2.length + s.1.count false ≤ H.cells.length
def Pend (s : List Bool × List Int) (j : Nat) : Prop := (j : Int) ∈ s.2
/-- nothing is lost: what was seen is seen still, what is newly seen is to be gone through, what was to be gone through is so still -/
structure Grow (s t : List Bool × List Int) : Prop where
  mono : ∀ j : Nat, s.1[j]? = some true → t.1[j]? = some true
  new : ∀ j : Nat, t.1[j]? = some true → s.1[j]? = some true ∨ (j : Int) ∈ t.2
  old : ∀ g, g ∈ s.2 → g ∈ t.2
  msr : 2 * t.1.count false + t.2.length ≤ 2 * s.1.count false + s.2.length
  pre : s.2 <+: t.2
theorem Grow.refl (s : List Bool × List Int) : Grow s s := ⟨fun _ h => h, fun _ h => .inl h, fun _ h => h, Nat.le_refl _, List.prefix_refl _⟩
theorem Grow.trans {s t u : List Bool × List Int} (h : Grow s t) (k : Grow t u) : Grow s u :=
  ⟨fun j hj => k.mono j (h.mono j hj), fun j hj => (k.new j hj).elim (fun h' => (h.new j h').elim .inl fun h'' => .inr (k.old _ h'')) .inr, fun g hg => k.old g (h.old g hg), Nat.le_trans k.msr h.msr, h.pre.trans k.pre⟩
theorem Hit.grow {H : Heap} {s t : List Bool × List Int} {w : Word} (h : Hit H s.1 w) (g : Grow s t) : Hit H t.1 w := fun j hj => g.mono j (h j hj)
theorem count_set {l : List Bool} {j : Nat} (h : l[j]? = some false) : (l.set j true).count false + 1 = l.count false := by
  induction l generalizing j with
  | nil => simp at h
  | cons b r ih =>
    cases j with
    | zero => simp only [List.getElem?_cons_zero, Option.some.injEq] at h; subst h; simp
    | succ j =>
      simp only [List.getElem?_cons_succ] at h
      have := ih h
      simp only [List.set_cons_succ, List.count_cons]
      omega
theorem mkW_ok {H : Heap} {S : Nat → Prop} {s : List Bool × List Int} {w : Word} (h : Mk H S s) (hw : ∀ j, H.tgt w = some j → j < H.cells.length ∧ S j) : Mk H S (mkW H s w) ∧ Grow s (mkW H s w) ∧ Hit H (mkW H s w).1 w := by
  unfold mkW
  cases ht : H.tgt w with
  | none => exact ⟨h, Grow.refl s, fun j hj => by rw [ht] at hj; cases hj⟩
  | some j =>
    obtain ⟨hj, hS⟩ := hw j ht
    simp only
    by_cases hs : s.1[j]? = some false
    · rw [if_pos hs]
      have hc := count_set hs
      have hjl : j < s.1.length := by rw [h.len]; exact hj
      have hset : ∀ k : Nat, (s.1.set j true)[k]? = some true ↔ k = j ∨ s.1[k]? = some true := by
        intro k
        rw [List.getElem?_set]
        by_cases e : j = k
        · subst e; simp [hjl]
        · simp only [e, if_false]
          constructor
          · exact .inr
          · rintro (h | h)
            · exact absurd h.symm e
            · exact h
      refine ⟨⟨by simpa using h.len, fun k hk => ?_, fun g hg => ?_, ?_⟩, ⟨fun k hk => (hset k).2 (.inr hk), fun k hk => ?_, fun g hg => List.mem_append_left _ hg, ?_, List.prefix_append _ _⟩, fun k hk => ?_⟩
      · rcases (hset k).1 hk with rfl | hk
        · exact hS
        · exact h.snd k hk
      · rcases List.mem_append.1 hg with hg | hg
        · obtain ⟨k, e, hk⟩ := h.stk g hg
          exact ⟨k, e, (hset k).2 (.inr hk)⟩
        · exact ⟨j, by simpa using hg, (hset j).2 (.inl rfl)⟩
      · have := h.cnt
        simp only [List.length_append, List.length_singleton]
        omega
      · rcases (hset k).1 hk with rfl | hk
        · exact .inr (List.mem_append_right _ (by simp))
        · exact .inl hk
      · simp only [List.length_append, List.length_singleton]
        omega
      · rw [ht] at hk
        cases hk
        exact (hset j).2 (.inl rfl)
    · rw [if_neg hs]
      refine ⟨h, Grow.refl s, fun k hk => ?_⟩
      rw [ht] at hk
      cases hk
      have hjl : j < s.1.length := by rw [h.len]; exact hj
      rw [List.getElem?_eq_getElem hjl] at hs ⊢
      cases hb : s.1[j] with
      | true => rfl
      | false => rw [hb] at hs; exact absurd rfl hs
/-- the answer -/
noncomputable def reachL (H : Heap) : List Bool := (List.range H.cells.length).map fun i => decide (Reached H i)
/-- all that is reached is seen once nothing is left to go through -/
structure Full (H : Heap) (seen : List Bool) : Prop where
  regs : ∀ w, w ∈ H.regs → Hit H seen w
  roots : ∀ (i : Nat) c, H.cells[i]? = some c → Root c → seen[i]? = some true
def Closed (H : Heap) (seen : List Bool) (open_ : Nat → Prop) : Prop := ∀ (i : Nat) c, seen[i]? = some true → ¬ open_ i → H.cells[i]? = some c → ∀ p, p ∈ c.pairs → Hit H seen p.key ∧ Hit H seen p.val
theorem reach_end {H : Heap} {s : List Bool × List Int} (h : Mk H (Reached H) s) (hf : Full H s.1) (hc : Closed H s.1 fun _ => False) : s.1 = reachL H := by
  have key : ∀ j, Reached H j → s.1[j]? = some true := by
    intro j hj
    induction hj with
    | reg h1 h2 => exact hf.regs _ h1 _ h2
    | root h1 h2 => exact hf.roots _ _ h1 h2
    | pair _ h2 h3 h4 h5 ih =>
      have := hc _ _ ih (fun h => h) h2 _ h3
      rcases h4 with rfl | rfl
      · exact this.1 _ h5
      · exact this.2 _ h5
  unfold reachL
  apply List.ext_getElem?
  intro i
  by_cases hi : i < H.cells.length
  · rw [List.getElem?_map, List.getElem?_range hi]
    simp only [Option.map_some]
    have hl : i < s.1.length := by rw [h.len]; exact hi
    rw [List.getElem?_eq_getElem hl]
    congr 1
    cases hb : s.1[i] with
    | true =>
      have : Reached H i := h.snd i (by rw [List.getElem?_eq_getElem hl, hb])
      simp [this]
    | false =>
      have : ¬ Reached H i := fun hr => by
        have := key i hr
        rw [List.getElem?_eq_getElem hl, hb] at this
        cases this
      simp [this]
  · rw [List.getElem?_eq_none (by rw [h.len]; omega), List.getElem?_eq_none (by simp; omega)]
end Go.Proofs.Ytcmllambknfleaa.E
/- What is reached, the program's: one word pushed. Conditions: none. -/
set_option linter.unusedVariables false
set_option linter.unusedSimpArgs false
set_option maxHeartbeats 4000000
set_option maxRecDepth 100000
namespace Go.Proofs.Ytcmllambknfleaa.E
open Go
open Classical
/-- a box of one value, written -/
theorem u_b1 {b : Nat} {v w : Value} : UpA (bx b [v]) b 0 [w] (bx b [w]) := up_bx (by simp) ⟨rfl⟩
theorem g_sb {P : Program} {S : St} {As As' : List Asr} {post : St → List Asr → Prop} {r : List I} {x y : Operand} {b : Nat} {v : Value} (hx : lc S x = some (.mm b 0)) (hy : ev S y = some v) (hn : v.cells.size = 1) (hpl : plainCells v.cells.toList = true) (hp : LA P r post S As')
    (hu : Up As b 0 v.cells.toList As' := by (fail_if_success apply up_bad); (repeat (first | exact up_h u_b1 | apply up_t)); fail_if_success focus skip) : LA P (⟨none, none, .store 1 x y⟩ :: r) post S As := a_st hx hy hn hpl hu hp
def Heap.toI (H : Heap) (w : Word) : Int := if w.kind = 2 then (H.lead w).at_ else -1
theorem to_q {m : Mem} {a : Nat} {x : HX} {w : Word} (h : Has m (hp a x)) (hf : w.kind = 2 → 0 ≤ w.at_ ∧ w.at_ < x.H.cells.length) : Qt Try.prog 150 [ptr a, wa w] m (.int .i64 (x.H.toI w)) := by
  refine qt_of (fnA_of (fun h => fn150 (by simp) h) ?_)
  unfold Heap.toI
  repeat' (first
    | (refine k_L ?_; first | refine a_p rfl ?_ | (refine k_bx ?_; refine a_bx rfl rfl ?_) | (refine k_c ?_; refine a_cq rfl (fun m hm => lead_q (x := x.hs) (w := w) (has_g h hm).ph hf) ?_))
    | refine a_n ?_
    | (refine k_V ?_; first | refine v_rv ?_ | refine v_seq ?_ | refine v_reg ?_ | refine v_ret ?_ | refine v_skip ?_ | (refine v_cn rfl (fun hb => ?_) (fun hb => ?_) <;> try (exfalso; omega)))
    | refine s_r ?_)
  · exact fa_q (by simp) (fun _ _ => rfl) (by rw [if_neg (by simp_all)])
  · exact fa_q (by simp) (fun _ _ => rfl) (by rw [if_pos (by simp_all)]; rfl)
/-- what is seen and what is to be gone through, behind the closure's variables -/
abbrev seA (a p1 p2 p3 : Nat) (sd kd : D) (s : List Bool × List Int) : List Asr := [bx p1 [ptr a], bx p2 [.slice sd.a s.1.length sd.cap], slA 1 bv sd s.1, bx p3 [.slice kd.a s.2.length kd.cap], slA 1 iv kd s.2]
theorem reach1_a {m : Mem} {a p1 p2 p3 : Nat} {x : HX} {w : Word} {s : List Bool × List Int} {S : Nat → Prop} {sd kd : D} (h : Has m (hp a x)) (h1 : R1 x.H) (h2 : R2 x.H) (hf : Formed x.H w) (hk : Mk x.H S s) :
    FnA Try.prog 149 [wa w, ptr p1, ptr p2, ptr p3] (seA a p1 p2 p3 sd kd s ++ [ro m]) (fun v As => ∃ kd', As = seA a p1 p2 p3 sd kd' (mkW x.H s w) ++ [ro m]) := by
  have hc := h1.cells
  have hr := h1.room
  have hcn := hk.cnt
  have hln := hk.len
  refine fnA_of (fun h => fn149 (by simp) h) ?_
  have hat := fun hk2 => hf.at hk2
  by_cases hk2 : w.kind = 2
  · have ht : x.H.tgt w = some (x.H.lead w).at_.toNat := by unfold Heap.tgt; rw [if_pos (lead_kind.2 hk2)]
    have hl := tgt_lt h2 hf ht
    generalize (x.H.lead w).at_.toNat = j at ht hl
    have e : x.H.toI w = (j : Int) := by unfold Heap.toI; rw [if_pos hk2]; exact hl.2.2
    cases hb : s.1[j]? with
    | none => rw [List.getElem?_eq_none_iff] at hb; omega
    | some b =>
      cases b with
      | true =>
        have em : mkW x.H s w = s := by unfold mkW; rw [ht]; simp [hb]
        repeat' (first
          | (refine k_L ?_; first | refine a_p rfl ?_ | (refine k_g ?_; refine a_gy rfl rfl ?_) | (refine k_l ?_; refine g_l rfl ?_) | (refine k_i ?_; refine g_i rfl rfl ?_) | (refine k_bx ?_; refine a_bx rfl rfl ?_) | (refine k_c ?_; refine a_cq rfl (fun m hm => qt_e (to_q (has_g h hm) hat) (by rw [e])) ?_))
          | refine a_n ?_
          | (refine k_V ?_; first | refine v_seq ?_ | refine v_reg ?_ | refine v_skip ?_ | refine v_cf rfl ?_))
        exact fa_n (fun _ _ => rfl) (Ent.refl _) ⟨kd, by rw [em]⟩
      | false =>
        have em : mkW x.H s w = (s.1.set j true, s.2 ++ [(j : Int)]) := by unfold mkW; rw [ht]; simp [hb]
        repeat' (first
          | (refine k_L ?_; first | refine a_p rfl ?_ | (refine k_g ?_; refine a_gy rfl rfl ?_) | (refine k_l ?_; refine g_l rfl ?_) | (refine k_i ?_; refine g_i rfl rfl ?_) | (refine k_st ?_; refine g_st rfl rfl rfl rfl ?_) | (refine k_bx ?_; refine a_bx rfl rfl ?_) | (refine k_bl ?_; refine a_bl rfl ?_) | (refine k_c ?_; refine a_cq rfl (fun m hm => qt_e (to_q (has_g h hm) hat) (by rw [e])) ?_) | (refine g_ai rfl rfl (by omega) (fun e' => ?_)) | (refine g_sb rfl rfl rfl rfl ?_))
          | refine a_n ?_
          | (refine k_V ?_; first | refine v_seq ?_ | refine v_reg ?_ | refine v_ct rfl ?_))
        exact fa_n (As' := [bx p1 [ptr a], bx p2 [.slice sd.a s.1.length sd.cap], slA 1 bv sd (s.1.set j true), bx p3 [.slice e'.a (s.2 ++ [(j : Int)]).length e'.cap], slA 1 iv e' (s.2 ++ [(j : Int)]), ro m]) (fun _ _ => rfl) (Pm.ent (by (fail_if_success apply pm_bad); (repeat (first | exact pm_nil | (apply pm_cons; repeat (first | exact pk_h | apply pk_t)))); fail_if_success focus skip)) ⟨e', by rw [em]; simp [seA]⟩
  · have ht : x.H.tgt w = none := by unfold Heap.tgt; rw [if_neg (fun h => hk2 (lead_kind.1 h))]
    have e : x.H.toI w = -1 := by unfold Heap.toI; rw [if_neg hk2]
    have em : mkW x.H s w = s := by unfold mkW; rw [ht]
    repeat' (first
      | (refine k_L ?_; first | refine a_p rfl ?_ | (refine k_g ?_; refine a_gn rfl rfl ?_) | (refine k_l ?_; refine g_l rfl ?_) | (refine k_bx ?_; refine a_bx rfl rfl ?_) | (refine k_c ?_; refine a_cq rfl (fun m hm => qt_e (to_q (has_g h hm) hat) (by rw [e])) ?_))
      | refine a_n ?_
      | (refine k_V ?_; first | refine v_seq ?_ | refine v_reg ?_ | refine v_skip ?_ | refine v_cf rfl ?_))
    exact fa_n (fun _ _ => rfl) (Ent.refl _) ⟨kd, by rw [em]⟩
theorem holds1_a {m : Mem} {a p1 p2 p3 : Nat} {x : HX} {w : Word} {s : List Bool × List Int} {S : Nat → Prop} {sd kd : D} (h : Has m (hp a x)) (h1 : R1 x.H) (h2 : R2 x.H) (hf : Formed x.H w) (hk : Mk x.H S s) :
    FnA Try.prog 152 [wa w, ptr p1, ptr p2, ptr p3] (seA a p1 p2 p3 sd kd s ++ [ro m]) (fun v As => ∃ kd', As = seA a p1 p2 p3 sd kd' (mkW x.H s w) ++ [ro m]) := by
  have hc := h1.cells
  have hr := h1.room
  have hcn := hk.cnt
  have hln := hk.len
  refine fnA_of (fun h => fn152 (by simp) h) ?_
  have hat := fun hk2 => hf.at hk2
  by_cases hk2 : w.kind = 2
  · have ht : x.H.tgt w = some (x.H.lead w).at_.toNat := by unfold Heap.tgt; rw [if_pos (lead_kind.2 hk2)]
    have hl := tgt_lt h2 hf ht
    generalize (x.H.lead w).at_.toNat = j at ht hl
    have e : x.H.toI w = (j : Int) := by unfold Heap.toI; rw [if_pos hk2]; exact hl.2.2
    cases hb : s.1[j]? with
    | none => rw [List.getElem?_eq_none_iff] at hb; omega
    | some b =>
      cases b with
      | true =>
        have em : mkW x.H s w = s := by unfold mkW; rw [ht]; simp [hb]
        repeat' (first
          | (refine k_L ?_; first | refine a_p rfl ?_ | (refine k_g ?_; refine a_gy rfl rfl ?_) | (refine k_l ?_; refine g_l rfl ?_) | (refine k_i ?_; refine g_i rfl rfl ?_) | (refine k_bx ?_; refine a_bx rfl rfl ?_) | (refine k_c ?_; refine a_cq rfl (fun m hm => qt_e (to_q (has_g h hm) hat) (by rw [e])) ?_))
          | refine a_n ?_
          | (refine k_V ?_; first | refine v_seq ?_ | refine v_reg ?_ | refine v_skip ?_ | refine v_cf rfl ?_))
        exact fa_n (fun _ _ => rfl) (Ent.refl _) ⟨kd, by rw [em]⟩
      | false =>
        have em : mkW x.H s w = (s.1.set j true, s.2 ++ [(j : Int)]) := by unfold mkW; rw [ht]; simp [hb]
        repeat' (first
          | (refine k_L ?_; first | refine a_p rfl ?_ | (refine k_g ?_; refine a_gy rfl rfl ?_) | (refine k_l ?_; refine g_l rfl ?_) | (refine k_i ?_; refine g_i rfl rfl ?_) | (refine k_st ?_; refine g_st rfl rfl rfl rfl ?_) | (refine k_bx ?_; refine a_bx rfl rfl ?_) | (refine k_bl ?_; refine a_bl rfl ?_) | (refine k_c ?_; refine a_cq rfl (fun m hm => qt_e (to_q (has_g h hm) hat) (by rw [e])) ?_) | (refine g_ai rfl rfl (by omega) (fun e' => ?_)) | (refine g_sb rfl rfl rfl rfl ?_))
          | refine a_n ?_
          | (refine k_V ?_; first | refine v_seq ?_ | refine v_reg ?_ | refine v_ct rfl ?_))
        exact fa_n (As' := [bx p1 [ptr a], bx p2 [.slice sd.a s.1.length sd.cap], slA 1 bv sd (s.1.set j true), bx p3 [.slice e'.a (s.2 ++ [(j : Int)]).length e'.cap], slA 1 iv e' (s.2 ++ [(j : Int)]), ro m]) (fun _ _ => rfl) (Pm.ent (by (fail_if_success apply pm_bad); (repeat (first | exact pm_nil | (apply pm_cons; repeat (first | exact pk_h | apply pk_t)))); fail_if_success focus skip)) ⟨e', by rw [em]; simp [seA]⟩
  · have ht : x.H.tgt w = none := by unfold Heap.tgt; rw [if_neg (fun h => hk2 (lead_kind.1 h))]
    have e : x.H.toI w = -1 := by unfold Heap.toI; rw [if_neg hk2]
    have em : mkW x.H s w = s := by unfold mkW; rw [ht]
    repeat' (first
      | (refine k_L ?_; first | refine a_p rfl ?_ | (refine k_g ?_; refine a_gn rfl rfl ?_) | (refine k_l ?_; refine g_l rfl ?_) | (refine k_bx ?_; refine a_bx rfl rfl ?_) | (refine k_c ?_; refine a_cq rfl (fun m hm => qt_e (to_q (has_g h hm) hat) (by rw [e])) ?_))
      | refine a_n ?_
      | (refine k_V ?_; first | refine v_seq ?_ | refine v_reg ?_ | refine v_skip ?_ | refine v_cf rfl ?_))
    exact fa_n (fun _ _ => rfl) (Ent.refl _) ⟨kd, by rw [em]⟩
end Go.Proofs.Ytcmllambknfleaa.E
/- What is reached, the program's. Conditions: none. -/
set_option linter.unusedVariables false
set_option linter.unusedSimpArgs false
set_option maxHeartbeats 8000000
set_option maxRecDepth 100000
namespace Go.Proofs.Ytcmllambknfleaa.E
open Go
open Classical
theorem ent_sl {α : Type} {f : α → List Value} {size : Nat} (hs : ∀ x, (f x).length = size) {d : D} {xs : List α} {k : Nat} {R : List Asr} (hk : k ≤ xs.length) : Ent (slA size f d xs :: R) (slA size f d (xs.take k) :: R) := ent_h fun m h => sl_take hs h hk
theorem tgt_root {H : Heap} {i : Nat} {c : Cell} (hc : H.cells[i]? = some c) (hr : c.state = 1) : H.tgt ⟨2, 0, i⟩ = some i := by
  have hg := getC_nat hc
  unfold Heap.tgt Heap.lead
  rw [hg]
  simp [hr]
theorem formed_at {H : Heap} {i : Nat} (h : i < H.cells.length) : Formed H ⟨2, 0, i⟩ := .inr (.inr ⟨rfl, rfl, by simp, by simpa using h⟩)
/-- the first two loops' state -/
structure MkA (H : Heap) (S : Nat → Prop) (s : List Bool × List Int) : Prop where
  ok : Mk H S s
  all : ∀ j : Nat, s.1[j]? = some true → (j : Int) ∈ s.2
theorem MkA.next {H : Heap} {S : Nat → Prop} {s : List Bool × List Int} {w : Word} (h : MkA H S s) (hw : ∀ j, H.tgt w = some j → j < H.cells.length ∧ S j) : MkA H S (mkW H s w) ∧ Grow s (mkW H s w) ∧ Hit H (mkW H s w).1 w := by
  obtain ⟨a, b, c⟩ := mkW_ok h.ok hw
  exact ⟨⟨a, fun j hj => (b.new j hj).elim (fun h' => b.old _ (h.all j h')) id⟩, b, c⟩
theorem mk0 (H : Heap) (S : Nat → Prop) : MkA H S (List.replicate H.cells.length false, []) := by
  have key : ∀ j : Nat, (List.replicate H.cells.length false)[j]? = some true → False := by
    intro j hj
    rw [List.getElem?_replicate] at hj
    split at hj <;> simp at hj
  exact ⟨⟨by simp, fun j hj => (key j hj).elim, fun g hg => (by cases hg), by simp⟩, fun j hj => (key j hj).elim⟩
theorem ent_new {α : Type} {f : α → List Value} {size : Nat} {R : List Asr} : Ent R (slA size f ⟨none, 0⟩ [] :: R) := ent_of fun m h => ⟨emp, m, fun _ => .inl rfl, rfl, ⟨.inl ⟨0, rfl, rfl, rfl⟩, fun _ _ => rfl⟩, h⟩
theorem v_kn {E : Env} {c : C} {Q : X → St → List Asr → Prop} {S : St} {As : List Asr} {p : Prop} (hk : Kn As p) (h : p → VA E c Q S As) : VA E c Q S As := ⟨fun m hm => (h (hk.out m hm)).out m hm⟩
theorem ent_pre {α : Type} {f : α → List Value} {size : Nat} (hs : ∀ x, (f x).length = size) {d : D} {xs ys : List α} {R : List Asr} : Ent (slA size f d (xs ++ ys) :: R) (slA size f d xs :: R) := ent_h fun m h => by
  have := sl_take hs h (k := xs.length) (by simp)
  rwa [List.take_left] at this
abbrev PQ := (List Bool × List Int) × D
theorem reach_a {m : Mem} {a : Nat} {x : HX} (h : Has m (hp a x)) (h1 : R1 x.H) (h2 : R2 x.H) (h4 : R4 x.H) : FnA Try.prog 112 [ptr a] [ro m] (fun v As => ∃ sd : D, v = .slice sd.a (reachL x.H).length sd.cap ∧ As = [slA 1 bv sd (reachL x.H), ro m]) := by
  have hb0 := h.lens
  have hl := x.len
  have hc1 := h1.cells
  have hc2 := h1.room
  refine fnA_of (fun h => fn112 (by simp) h) ?_
  repeat' (first
    | (refine k_L ?_; first | refine a_p rfl ?_ | (refine k_l ?_; refine g_l rfl ?_) | (refine a_nw (vs := [ptr a]) rfl rfl (fun p1 => ?_)) | (refine a_mk (f := bv) (n := (x.xs.length : Int)) (k := (x.xs.length : Int)) false (fun _ => rfl) rfl rfl rfl (by omega) (by omega) (fun sd hsd => ?_)))
    | refine a_n ?_
    | (refine k_V ?_; first | refine v_seq ?_ | refine v_reg ?_))
  refine a_nz (fun p2 => ?_)
  repeat' (first
    | (refine k_L ?_; (refine g_sb rfl rfl rfl rfl ?_))
    | refine a_n ?_
    | (refine k_V ?_; first | refine v_seq ?_ | refine v_reg ?_))
  refine a_nz (fun p3 => ?_)
  repeat' (first
    | (refine k_L ?_; first | refine a_p rfl ?_ | (refine k_l ?_; refine g_l rfl ?_))
    | refine a_n ?_
    | (refine k_V ?_; first | refine v_seq ?_ | refine v_reg ?_)
    | refine s_n ?_)
  have hm0 := mk0 x.H (Reached x.H)
  rw [hl] at hm0
  refine VA.ent (ent_new (f := iv) (size := 1)) ?_
  have hreg : ∀ w, w ∈ x.H.regs → ∀ j, x.H.tgt w = some j → j < x.H.cells.length ∧ Reached x.H j := fun w hw j hj => ⟨(tgt_lt h2 (h4.regs w hw).1 hj).1, .reg hw hj⟩
  refine g_range x.regs.length (fun q : PQ => [(1, .v (ptr p1)), (3, .v (ptr p2)), (4, .v (ptr p3)), (5, .v (.func (.func 149) #[] #[ptr p1, ptr p2, ptr p3])), (23, .v (.slice x.rd.a x.regs.length x.rd.cap))]) (fun q => seA a p1 p2 p3 sd q.2 q.1 ++ [ro m])
    (fun i q => MkA x.H (Reached x.H) q.1 ∧ ∀ w, w ∈ x.H.regs.take i → Hit x.H q.1.1 w) (((List.replicate x.xs.length false, []), ⟨none, 0⟩) : PQ) ⟨hm0, by simp⟩ (fun i q hi hv => ?_) (fun q hv => ?_) (hent := by
    show Ent _ (seA a p1 p2 p3 sd ⟨none, 0⟩ (List.replicate x.xs.length false, []) ++ [ro m])
    simp only [seA, List.length_replicate]
    exact Pm.ent (by (fail_if_success apply pm_bad); (repeat (first | exact pm_nil | (apply pm_cons; repeat (first | exact pk_h | apply pk_t)))); fail_if_success focus skip))
  · obtain ⟨w, gw⟩ : ∃ w, x.regs[i]? = some w := ⟨_, List.getElem?_eq_getElem hi⟩
    have hwm : w ∈ x.H.regs := List.mem_of_getElem? gw
    obtain ⟨n1, n2, n3⟩ := hv.1.next (hreg w hwm)
    repeat' (first
      | (refine k_L ?_; first | refine a_p rfl ?_ | (refine k_i ?_; refine g_i rfl rfl ?_) | (refine k_ls ?_; refine g_ls rfl ?_) | (refine k_st ?_; refine g_sw rfl rfl rfl rfl (Nat.le_of_ble_eq_true rfl) ?_) | (refine k_al ?_; refine a_al ?_) | (refine a_cv rfl (fnOk_of Try.func149 rfl rfl) rfl (reach1_a (p1 := p1) (p2 := p2) (p3 := p3) (sd := sd) (kd := q.2) (w := w) (S := Reached x.H) h h1 h2 (h4.regs w hwm).1 hv.1.ok) (by (fail_if_success apply pm_bad); (repeat (first | exact pm_nil | (apply pm_cons; repeat (first | exact pk_h | apply pk_t)))); fail_if_success focus skip) (fun v As' hq => ?_); obtain ⟨kd', rfl⟩ := hq))
      | refine a_n ?_
      | (refine k_V ?_; first | refine v_seq ?_ | refine v_reg ?_)
      | refine sk_zero ?_
      | refine sk_succ ?_
      | refine wk_nil ?_
      | refine wk_cons ?_)
    refine r_nx ((mkW x.H q.1 w, kd') : PQ) ⟨n1, fun w' hw' => ?_⟩ (he := Pm.ent (by (fail_if_success apply pm_bad); (repeat (first | exact pm_nil | (apply pm_cons; repeat (first | exact pk_h | apply pk_t)))); fail_if_success focus skip))
    rw [List.take_add_one, List.mem_append] at hw'
    rcases hw' with hw' | hw'
    · exact (hv.2 w' hw').grow n2
    · rw [show x.H.regs[i]? = some w from gw] at hw'
      simp only [Option.toList_some, List.mem_singleton] at hw'
      subst hw'; exact n3
  · obtain ⟨hv1, hv2⟩ := hv
    rw [List.take_of_length_le (by exact Nat.le_refl _)] at hv2
    have hroot : ∀ (i : Nat) c, x.H.cells[i]? = some c → Root c → ∀ j, x.H.tgt ⟨2, 0, i⟩ = some j → j < x.H.cells.length ∧ Reached x.H j := fun i c hc hr j hj => by
      rw [tgt_root hc hr.1] at hj
      cases hj
      exact ⟨(List.getElem?_eq_some_iff.1 hc).1, .root hc hr⟩
    repeat' (first
      | (refine k_L ?_; first | refine a_p rfl ?_ | (refine k_l ?_; refine g_l rfl ?_))
      | refine a_n ?_
      | (refine k_V ?_; first | refine v_seq ?_ | refine v_reg ?_)
      | refine s_n ?_)
    refine g_range x.xs.length (fun q : PQ => [(1, .v (ptr p1)), (3, .v (ptr p2)), (4, .v (ptr p3)), (5, .v (.func (.func 149) #[] #[ptr p1, ptr p2, ptr p3])), (36, .v (.slice x.cd.a x.xs.length x.cd.cap))]) (fun q => seA a p1 p2 p3 sd q.2 q.1 ++ [ro m])
      (fun i q => MkA x.H (Reached x.H) q.1 ∧ (∀ w, w ∈ x.H.regs → Hit x.H q.1.1 w) ∧ ∀ (j : Nat) c, j < i → x.H.cells[j]? = some c → Root c → q.1.1[j]? = some true) q ⟨hv1, hv2, fun j c hj => by omega⟩ (fun i q hi hv => ?_) (fun q hv => ?_) (hent := Pm.ent (by (fail_if_success apply pm_bad); (repeat (first | exact pm_nil | (apply pm_cons; repeat (first | exact pk_h | apply pk_t)))); fail_if_success focus skip))
    · obtain ⟨y, gy, gc⟩ := HX.at hi
      obtain ⟨hv1, hv2, hv3⟩ := hv
      by_cases hr : Root y.c
      · obtain ⟨n1, n2, n3⟩ := hv1.next (hroot i y.c gc hr)
        repeat' (first
          | (refine k_L ?_; first | refine a_p rfl ?_ | (refine k_i ?_; refine g_i rfl rfl ?_) | (refine k_ls ?_; refine g_ls rfl ?_) | (refine k_st ?_; refine g_sw rfl rfl rfl rfl (Nat.le_of_ble_eq_true rfl) ?_) | (refine k_al ?_; refine a_al ?_) | (refine k_c ?_; refine a_cq rfl (fun m hm => qt_e (root_q (y := y)) (congrArg Value.bool (decide_eq_true hr))) ?_) | (refine a_cv rfl (fnOk_of Try.func149 rfl rfl) rfl (reach1_a (p1 := p1) (p2 := p2) (p3 := p3) (sd := sd) (kd := q.2) (w := ⟨2, 0, i⟩) (S := Reached x.H) h h1 h2 (formed_at (by omega)) hv1.ok) (by (fail_if_success apply pm_bad); (repeat (first | exact pm_nil | (apply pm_cons; repeat (first | exact pk_h | apply pk_t)))); fail_if_success focus skip) (fun v As' hq => ?_); obtain ⟨kd', rfl⟩ := hq))
          | refine a_n ?_
          | (refine k_V ?_; first | refine v_seq ?_ | refine v_reg ?_ | refine v_ct rfl ?_)
          | refine sk_zero ?_
          | refine sk_succ ?_
          | refine wk_nil ?_
          | refine wk_cons ?_)
        refine r_nx ((mkW x.H q.1 ⟨2, 0, i⟩, kd') : PQ) ⟨n1, fun w' hw' => (hv2 w' hw').grow n2, fun j c hj hc hrc => ?_⟩ (he := Pm.ent (by (fail_if_success apply pm_bad); (repeat (first | exact pm_nil | (apply pm_cons; repeat (first | exact pk_h | apply pk_t)))); fail_if_success focus skip))
        by_cases e : j = i
        · subst e
          exact n3 j (tgt_root gc hr.1)
        · exact n2.mono j (hv3 j c (by omega) hc hrc)
      · repeat' (first
          | (refine k_L ?_; first | refine a_p rfl ?_ | (refine k_i ?_; refine g_i rfl rfl ?_) | (refine k_ls ?_; refine g_ls rfl ?_) | (refine k_st ?_; refine g_sw rfl rfl rfl rfl (Nat.le_of_ble_eq_true rfl) ?_) | (refine k_al ?_; refine a_al ?_) | (refine k_c ?_; refine a_cq rfl (fun m hm => qt_e (root_q (y := y)) (congrArg Value.bool (decide_eq_false hr))) ?_))
          | refine a_n ?_
          | (refine k_V ?_; first | refine v_seq ?_ | refine v_reg ?_ | refine v_skip ?_ | refine v_cf rfl ?_)
          | refine sk_zero ?_
          | refine sk_succ ?_
          | refine wk_nil ?_
          | refine wk_cons ?_)
        refine r_nx q ⟨hv1, hv2, fun j c hj hc hrc => ?_⟩ (he := Pm.ent (by (fail_if_success apply pm_bad); (repeat (first | exact pm_nil | (apply pm_cons; repeat (first | exact pk_h | apply pk_t)))); fail_if_success focus skip))
        by_cases e : j = i
        · subst e; rw [gc] at hc; cases hc; exact absurd hrc hr
        · exact hv3 j c (by omega) hc hrc
    · obtain ⟨hv1, hv2, hv3⟩ := hv
      have hfull : Full x.H q.1.1 := ⟨hv2, fun i c hc hr => hv3 i c (by have := (List.getElem?_eq_some_iff.1 hc).1; omega) hc hr⟩
      have hcl : Closed x.H q.1.1 fun j => (j : Int) ∈ q.1.2 := fun i c hi hn => absurd (hv1.all i hi) hn
      have hok := hv1.ok
      clear hv1 hv2 hv3
      repeat' (first
        | refine a_n ?_
        | (refine k_V ?_; refine v_seq ?_))
      refine v_blk ?_
      refine v_loop (fun q : PQ => [(1, .v (ptr p1)), (3, .v (ptr p2)), (4, .v (ptr p3)), (5, .v (.func (.func 149) #[] #[ptr p1, ptr p2, ptr p3]))]) (fun q => seA a p1 p2 p3 sd q.2 q.1 ++ [ro m])
        (fun k q => k = 2 * q.1.1.count false + q.1.2.length ∧ Mk x.H (Reached x.H) q.1 ∧ Full x.H q.1.1 ∧ Closed x.H q.1.1 fun j => (j : Int) ∈ q.1.2) ⟨_, q, ⟨rfl, rfl, rfl, rfl, trivial⟩, Pm.ent (by (fail_if_success apply pm_bad); (repeat (first | exact pm_nil | (apply pm_cons; repeat (first | exact pk_h | apply pk_t)))); fail_if_success focus skip), rfl, hok, hfull, hcl⟩ ?_
      clear hok hfull hcl
      rintro k ⟨⟨seen, stk⟩, kd⟩ ⟨rfl, hok, hfull, hcl⟩
      rcases (show stk = [] ∨ ∃ init g, stk = init ++ [g] from by
        by_cases hne : stk = []
        · exact .inl hne
        · exact .inr ⟨_, _, (List.dropLast_concat_getLast hne).symm⟩) with rfl | ⟨init, g, rfl⟩
      · have e := reach_end hok hfull (fun i c hi _ => hcl i c hi (by simp))
        simp only at e
        subst e
        repeat' (first
          | (refine k_L ?_; first | refine a_p rfl ?_ | (refine k_l ?_; refine g_l rfl ?_))
          | refine a_n ?_
          | (refine k_V ?_; first | refine v_seq ?_ | refine v_reg ?_ | refine v_ret ?_ | refine v_exit ?_ | refine v_cf rfl ?_))
        exact fa_r (As' := [slA 1 bv sd (reachL x.H), ro m]) (fun _ _ => rfl) (Pm.ent (by (fail_if_success apply pm_bad); (repeat (first | exact pm_nil | (apply pm_cons; repeat (first | exact pk_h | apply pk_t)))); fail_if_success focus skip)) ⟨sd, rfl, rfl⟩
      · obtain ⟨j, rfl, hj⟩ := hok.stk g (by simp)
        simp only at hj
        have hjl : j < x.xs.length := by
          have := (List.getElem?_eq_some_iff.1 hj).1
          have := hok.len
          simp only at this
          omega
        obtain ⟨y, gy, gc⟩ := HX.at hjl
        have hlen : (init ++ [(j : Int)]).length = init.length + 1 := by simp
        have gj : (init ++ [(j : Int)])[(((init ++ [(j : Int)]).length : Int) - 1).toNat]? = some (j : Int) := by
          rw [hlen, show (((init.length + 1 : Nat) : Int) - 1).toNat = init.length by omega]; simp
        dsimp only at hok hfull hcl ⊢
        have hcnt := hok.cnt
        dsimp only at hcnt
        refine v_kn (p := (init ++ [(j : Int)]).length ≤ kd.cap) (kn_t (kn_t (kn_t (kn_t (kn_h cp_sl))))) (fun hcap => ?_)
        have hpl := h2.pl (List.mem_of_getElem? gc)
        have e0 : (((init ++ [(j : Int)]).length : Int) - 1).toNat = init.length := by rw [hlen]; omega
        repeat' (first
          | (refine k_L ?_; first | (refine k_su ?_; refine g_su rfl rfl ?_) | refine a_p rfl ?_ | (refine k_l ?_; refine g_l rfl ?_) | (refine k_i ?_; refine g_i rfl rfl ?_) | (refine k_ls ?_; refine g_ls rfl ?_) | (refine k_st ?_; refine g_sw rfl rfl rfl rfl (Nat.le_of_ble_eq_true rfl) ?_) | (refine k_al ?_; refine a_al ?_) | (refine g_sb rfl rfl rfl rfl ?_) | (refine g_tk rfl rfl ?_))
          | refine a_n ?_
          | (refine k_V ?_; first | refine v_seq ?_ | refine v_reg ?_ | refine v_dreg ?_ | refine v_bs ?_ | refine v_ret ?_ | refine v_exit ?_ | refine v_skip ?_ | (refine v_cd rfl (fun hb => ?_) (fun hb => ?_) <;> try (exfalso; omega)))
          | refine s_n ?_
          | refine sk_zero ?_
          | refine sk_succ ?_
          | refine wk_nil ?_
          | refine wk_cons ?_)
        rotate_left
        · exfalso; simp at hb
        rw [e0]
        refine VA.ent (Bs := [slA 1 iv kd (init ++ [(j : Int)]), bx p1 [ptr a], bx p2 [.slice sd.a seen.length sd.cap], slA 1 bv sd seen, bx p3 [.slice kd.a init.length kd.cap], ro m]) (Pm.ent (by (fail_if_success apply pm_bad); (repeat (first | exact pm_nil | (apply pm_cons; repeat (first | exact pk_h | apply pk_t)))); fail_if_success focus skip)) ?_
        refine VA.ent (ent_pre iv_len) ?_
        have hpr := h4.pairs j y.c gc
        have hS : ∀ (k : Nat) p, y.c.pairs[k]? = some p → ∀ w, (w = p.key ∨ w = p.val) → Formed x.H w ∧ ∀ j', x.H.tgt w = some j' → j' < x.H.cells.length ∧ Reached x.H j' := fun k p hp w hw => by
          have hf : Formed x.H w := by
            rcases hw with rfl | rfl
            · exact (hpr k p hp).1
            · exact (hpr k p hp).2.1
          exact ⟨hf, fun j' hj' => ⟨(tgt_lt h2 hf hj').1, .pair (hok.snd j hj) gc (List.mem_of_getElem? hp) hw hj'⟩⟩
        have hok0 : Mk x.H (Reached x.H) (seen, init) := ⟨hok.len, hok.snd, fun g hg => hok.stk g (by simp [hg]), by have := hok.cnt; simp only [List.length_append, List.length_singleton] at this ⊢; omega⟩
        refine g_range y.c.pairs.length (fun q : PQ => [(1, .v (ptr p1)), (3, .v (ptr p2)), (4, .v (ptr p3)), (5, .v (.func (.func 149) #[] #[ptr p1, ptr p2, ptr p3])), (71, .v (.slice y.d.a y.c.pairs.length y.d.cap))]) (fun q => seA a p1 p2 p3 sd q.2 q.1 ++ [ro m])
          (fun k q => Mk x.H (Reached x.H) q.1 ∧ (∀ p, p ∈ y.c.pairs.take k → Hit x.H q.1.1 p.key ∧ Hit x.H q.1.1 p.val) ∧ Grow (seen, init) q.1) (((seen, init), kd) : PQ) ⟨hok0, by simp, Grow.refl _⟩ (fun k q hk hv => ?_) (fun q hv => ?_) (hent := Pm.ent (by (fail_if_success apply pm_bad); (repeat (first | exact pm_nil | (apply pm_cons; repeat (first | exact pk_h | apply pk_t)))); fail_if_success focus skip))
        · obtain ⟨p, gp⟩ : ∃ p, y.c.pairs[k]? = some p := ⟨_, List.getElem?_eq_getElem hk⟩
          obtain ⟨hv1, hv2, hv3⟩ := hv
          obtain ⟨k1, k2⟩ := hS k p gp p.key (.inl rfl)
          obtain ⟨v1, v2⟩ := hS k p gp p.val (.inr rfl)
          obtain ⟨n1, n2, n3⟩ := mkW_ok hv1 k2
          obtain ⟨o1, o2, o3⟩ := mkW_ok n1 v2
          repeat' (first
            | (refine k_L ?_; first | refine a_p rfl ?_ | (refine k_i ?_; refine g_i rfl rfl ?_) | (refine k_ls ?_; refine g_ls rfl ?_) | (refine k_st ?_; refine g_sw rfl rfl rfl rfl (Nat.le_of_ble_eq_true rfl) ?_) | (refine k_al ?_; refine a_al ?_))
            | refine a_n ?_
            | (refine k_V ?_; first | refine v_seq ?_ | refine v_reg ?_)
            | refine sk_zero ?_
            | refine sk_succ ?_
            | refine wk_nil ?_
            | refine wk_cons ?_)
          refine a_cv rfl (fnOk_of Try.func149 rfl rfl) rfl (reach1_a (p1 := p1) (p2 := p2) (p3 := p3) (sd := sd) (kd := q.2) (w := p.key) (S := Reached x.H) h h1 h2 k1 hv1) (by (fail_if_success apply pm_bad); (repeat (first | exact pm_nil | (apply pm_cons; repeat (first | exact pk_h | apply pk_t)))); fail_if_success focus skip) (fun v As' hq => ?_)
          obtain ⟨kd', rfl⟩ := hq
          repeat' (first
            | (refine k_L ?_; refine a_p rfl ?_)
            | refine a_n ?_
            | (refine k_V ?_; refine v_reg ?_))
          refine a_cv rfl (fnOk_of Try.func149 rfl rfl) rfl (reach1_a (p1 := p1) (p2 := p2) (p3 := p3) (sd := sd) (kd := kd') (w := p.val) (S := Reached x.H) h h1 h2 v1 n1) (by (fail_if_success apply pm_bad); (repeat (first | exact pm_nil | (apply pm_cons; repeat (first | exact pk_h | apply pk_t)))); fail_if_success focus skip) (fun v As' hq => ?_)
          obtain ⟨kd'', rfl⟩ := hq
          repeat' (first
            | (refine k_L ?_; first | (refine k_ad ?_; refine g_ad rfl rfl ?_) | (refine k_su ?_; refine g_su rfl rfl ?_) | (refine k_ml ?_; refine g_ml rfl rfl ?_) | refine a_p rfl ?_ | (refine k_g ?_; first | refine a_gy rfl rfl ?_ | refine a_gn rfl rfl ?_ | refine a_gu rfl ?_ | (refine a_gd rfl (fun hb => ?_) (fun hb => ?_) <;> try (exfalso; omega)) | (refine a_ge rfl (fun hb => ?_) (fun hb => ?_) <;> try (exfalso; omega)) | (refine a_gne rfl (fun hb => ?_) (fun hb => ?_) <;> try (exfalso; omega)) | (refine a_gnd rfl (fun hb => ?_) (fun hb => ?_) <;> try (exfalso; omega))) | (refine k_l ?_; refine g_l rfl ?_) | (refine k_i ?_; refine g_i rfl rfl ?_) | (refine k_ls ?_; refine g_ls rfl ?_) | (refine k_st ?_; first | refine g_st rfl rfl rfl rfl ?_ | refine g_sw rfl rfl rfl rfl (Nat.le_of_ble_eq_true rfl) ?_) | (refine k_al ?_; refine a_al ?_) | (refine k_bx ?_; refine a_bx rfl rfl ?_) | (refine k_bl ?_; refine a_bl rfl ?_) | (refine k_p ?_; first | (refine a_pd rfl (fun hb => ?_) (fun hb => ?_) <;> try (exfalso; omega)) | (refine a_pe rfl (fun hb => ?_) (fun hb => ?_) <;> try (exfalso; omega)) | (refine a_pne rfl (fun hb => ?_) (fun hb => ?_) <;> try (exfalso; omega)) | (refine a_pnd rfl (fun hb => ?_) (fun hb => ?_) <;> try (exfalso; omega))))
            | refine a_n ?_
            | (refine k_V ?_; first | refine v_rv ?_ | refine v_seq ?_ | refine v_reg ?_ | refine v_dreg ?_ | refine v_zreg ?_ | refine v_bs ?_ | refine v_br ?_ | refine v_bd ?_ | refine v_bc ?_ | refine v_bk ?_ | refine v_bb ?_ | refine v_ret ?_ | refine v_exit ?_ | refine v_skip ?_ | refine v_ct rfl ?_ | refine v_cf rfl ?_ | (refine v_cd rfl (fun hb => ?_) (fun hb => ?_) <;> try (exfalso; omega)) | (refine v_ce rfl (fun hb => ?_) (fun hb => ?_) <;> try (exfalso; omega)) | (refine v_cn rfl (fun hb => ?_) (fun hb => ?_) <;> try (exfalso; omega)) | (refine v_cnd rfl (fun hb => ?_) (fun hb => ?_) <;> try (exfalso; omega)))
            | refine s_n ?_
            | refine s_r ?_
            | refine s_e ?_
            | refine b_n ?_
            | refine b_r ?_
            | refine b_e ?_
            | refine b_o rfl ?_
            | refine r_rt ?_
            | refine r_bk rfl ?_
            | refine r_ex rfl rfl ?_
            | refine sk_zero ?_
            | refine sk_succ ?_
            | refine wk_nil ?_
            | refine wk_cons ?_)
          refine r_nx ((mkW x.H (mkW x.H q.1 p.key) p.val, kd'') : PQ) ⟨o1, fun p' hp' => ?_, (hv3.trans n2).trans o2⟩ (he := Pm.ent (by (fail_if_success apply pm_bad); (repeat (first | exact pm_nil | (apply pm_cons; repeat (first | exact pk_h | apply pk_t)))); fail_if_success focus skip))
          rw [List.take_add_one, List.mem_append] at hp'
          rcases hp' with hp' | hp'
          · exact ⟨((hv2 p' hp').1.grow n2).grow o2, ((hv2 p' hp').2.grow n2).grow o2⟩
          · rw [gp] at hp'
            simp only [Option.toList_some, List.mem_singleton] at hp'
            subst hp'; exact ⟨n3.grow o2, o3⟩
        · obtain ⟨hv1, hv2, hv3⟩ := hv
          rw [List.take_of_length_le (Nat.le_refl _)] at hv2
          repeat' (first
            | refine a_n ?_
            | refine s_n ?_
            | refine b_n ?_)
          refine ⟨_, q, ?_, ⟨rfl, rfl, rfl, rfl, trivial⟩, Pm.ent (by (fail_if_success apply pm_bad); (repeat (first | exact pm_nil | (apply pm_cons; repeat (first | exact pk_h | apply pk_t)))); fail_if_success focus skip), rfl, hv1, ⟨fun w hw => (hfull.regs w hw).grow hv3, fun i c hc hr => hv3.mono i (hfull.roots i c hc hr)⟩, fun i c hi hn hc p hp => ?_⟩
          · have := hv3.msr
            simp only at this
            omega
          · rcases hv3.new i hi with hi' | hi'
            · by_cases e : i = j
              · subst e; rw [gc] at hc; cases hc; exact hv2 p hp
              · have := hcl i c hi' (by
                  intro hm
                  rcases List.mem_append.1 hm with hm | hm
                  · exact hn (hv3.old _ hm)
                  · simp only [List.mem_singleton] at hm; omega) hc p hp
                exact ⟨this.1.grow hv3, this.2.grow hv3⟩
            · exact absurd hi' hn
end Go.Proofs.Ytcmllambknfleaa.E
/- Sums over what is reached. Conditions: none. -/
set_option linter.unusedVariables false
set_option linter.unusedSimpArgs false
set_option maxHeartbeats 8000000
set_option maxRecDepth 100000
namespace Go.Proofs.Ytcmllambknfleaa.E
open Go
open Classical
theorem getC_some {H : Heap} {i : Int} (h0 : 0 ≤ i) (h1 : i < H.cells.length) : H.cells[i.toNat]? = some (H.getC i) := by
  unfold Heap.getC
  rw [List.getD_eq_getElem?_getD, List.getElem?_eq_getElem (by omega)]
  rfl
/-- where a word leads that leads well -/
theorem lead_ok {H : Heap} (h2 : R2 H) {w : Word} {mv : Prop} (hf : Formed H w) (hl : LeadsWell H w mv) {j : Nat} (ht : H.tgt w = some j) : ∃ c, H.cells[j]? = some c ∧ c.state = 1 ∧ ¬ Doomed H j := by
  obtain ⟨hj, hk, hat⟩ := tgt_lt h2 hf ht
  have hk2 := lead_kind.1 hk
  have hr := hf.at hk2
  have hc := getC_some hr.1 hr.2
  rcases hl hk2 with ⟨h1, hd⟩ | ⟨h1, _⟩
  · have e : H.lead w = w := by unfold Heap.lead; rw [if_neg (by omega)]
    rw [e] at hat
    have hj2 : w.at_.toNat = j := by omega
    rw [hj2] at hc
    exact ⟨_, hc, h1, by rw [← hat]; exact hd⟩
  · have e : (H.lead w).at_ = (H.getC w.at_).to := by unfold Heap.lead; rw [if_pos ⟨hk2, h1⟩]
    rcases h2.each _ _ hc with h | h | h
    · have := h.1; omega
    · obtain ⟨_, _, hp, ht, hs, _⟩ := h
      rw [← e, hat] at hs ht
      have hcj := getC_some (H := H) (i := j) (by omega) (by omega)
      exact ⟨_, hcj, hs, fun hd => by have := hd.1; omega⟩
    · have := h.1; omega
theorem reached_ok {H : Heap} (h2 : R2 H) (h4 : R4 H) {j : Nat} (h : Reached H j) : ∃ c, H.cells[j]? = some c ∧ c.state = 1 ∧ ¬ Doomed H j := by
  induction h with
  | reg hw ht => exact lead_ok h2 (h4.regs _ hw).1 (h4.regs _ hw).2 ht
  | root hc hr => exact ⟨_, hc, hr.1, fun hd => h4.roots _ _ hc hd hr⟩
  | @pair i j c p w _ hc hp hw ht ih =>
    obtain ⟨c', hc', hs, hd⟩ := ih
    obtain ⟨k, hk⟩ := List.getElem?_of_mem hp
    have hpr := h4.pairs _ _ hc k p hk
    rcases hw with rfl | rfl
    · exact lead_ok h2 hpr.1 (hpr.2.2 hd).1 ht
    · exact lead_ok h2 hpr.2.1 (hpr.2.2 hd).2 ht
/-- the units of the cells that a list tells -/
noncomputable def sumT (H : Heap) (L : List Bool) : Nat → Int
  | 0 => 0
  | i + 1 => if L[i]? = some true then sumT H L i + (H.getC i).units else sumT H L i
theorem units_le {c : Cell} (h : c.pairs.length ≤ 200) : 0 ≤ c.units ∧ c.units ≤ 201 := by unfold Cell.units; split <;> omega
theorem getC_pl {H : Heap} (h2 : R2 H) (i : Nat) : (H.getC i).pairs.length ≤ 200 := by
  unfold Heap.getC
  by_cases h : i < H.cells.length
  · have : H.cells.getD (i : Int).toNat ⟨0, 0, 0, 0, 0, 0, 0, []⟩ = H.cells[i] := by simp [h]
    rw [this]; exact h2.pl (List.getElem_mem h)
  · have : H.cells.getD (i : Int).toNat ⟨0, 0, 0, 0, 0, 0, 0, []⟩ = ⟨0, 0, 0, 0, 0, 0, 0, []⟩ := by simp [h]
    rw [this]; simp
theorem sumT_le {H : Heap} (h2 : R2 H) (L : List Bool) : ∀ i : Nat, 0 ≤ sumT H L i ∧ sumT H L i ≤ 201 * i
  | 0 => by simp [sumT]
  | i + 1 => by
    have := sumT_le h2 L i
    have h := units_le (getC_pl h2 i)
    unfold sumT
    split <;> omega
theorem sum_a {m : Mem} {a : Nat} {x : HX} {sd : D} {L : List Bool} (h : Has m (hp a x)) (h1 : R1 x.H) (h2 : R2 x.H) (hL : L.length = x.xs.length) :
    FnA Try.prog 111 [ptr a, .slice sd.a L.length sd.cap] [slA 1 bv sd L, ro m] (fun v As => v = .int .i64 (sumT x.H L x.xs.length) ∧ As = [slA 1 bv sd L, ro m]) := by
  have hb0 := h.lens
  have hl := x.len
  have hc1 := h1.cells
  have hc2 := h1.room
  refine fnA_of (fun h => fn111 (by simp) h) ?_
  repeat' (first
    | (refine k_L ?_; first | refine a_p rfl ?_ | (refine k_l ?_; refine g_l rfl ?_))
    | refine a_n ?_
    | (refine k_V ?_; first | refine v_seq ?_ | refine v_reg ?_)
    | refine s_n ?_)
  refine g_range x.xs.length (fun n : Int => [(1, .v (.slice sd.a L.length sd.cap)), (5, .v (.int .i64 n)), (11, .v (.slice x.cd.a x.xs.length x.cd.cap))]) (fun _ => [slA 1 bv sd L, ro m]) (fun i n => n = sumT x.H L i) 0 rfl (fun i n hi hn => ?_) (fun n hn => ?_)
  · obtain ⟨y, gy, gc⟩ := HX.at hi
    have gi := getC_nat gc
    have hs := sumT_le h2 L i
    have hu := units_le (h2.pl (List.mem_of_getElem? gc))
    have hpl := h2.pl (List.mem_of_getElem? gc)
    obtain ⟨b, gb⟩ : ∃ b, L[i]? = some b := ⟨_, List.getElem?_eq_getElem (by omega)⟩
    have e : sumT x.H L (i + 1) = if b = true then n + y.c.units else n := by
      show (if _ then _ else _) = _
      rw [gb, gi, ← hn]; simp
    cases b with
    | true =>
      repeat' (first
        | (refine k_L ?_; first | (refine k_ad ?_; refine g_ad rfl rfl ?_) | refine a_p rfl ?_ | (refine k_l ?_; refine g_l rfl ?_) | (refine k_i ?_; refine g_i rfl rfl ?_) | (refine k_ls ?_; refine g_ls rfl ?_) | (refine k_st ?_; refine g_sw rfl rfl rfl rfl (Nat.le_of_ble_eq_true rfl) ?_) | (refine k_al ?_; refine a_al ?_) | (refine k_c ?_; refine a_cq rfl (fun m hm => units_q (y := y) (by omega)) ?_))
        | refine a_n ?_
        | (refine k_V ?_; first | refine v_seq ?_ | refine v_reg ?_ | refine v_ct rfl ?_)
        | refine sk_zero ?_
        | refine sk_succ ?_
        | refine wk_nil ?_
        | refine wk_cons ?_)
      exact r_nx (n + y.c.units) (by rw [e, if_pos rfl])
    | false =>
      repeat' (first
        | (refine k_L ?_; first | refine a_p rfl ?_ | (refine k_l ?_; refine g_l rfl ?_) | (refine k_i ?_; refine g_i rfl rfl ?_) | (refine k_ls ?_; refine g_ls rfl ?_) | (refine k_st ?_; refine g_sw rfl rfl rfl rfl (Nat.le_of_ble_eq_true rfl) ?_) | (refine k_al ?_; refine a_al ?_))
        | refine a_n ?_
        | (refine k_V ?_; first | refine v_seq ?_ | refine v_reg ?_ | refine v_skip ?_ | refine v_cf rfl ?_)
        | refine sk_zero ?_
        | refine sk_succ ?_
        | refine wk_nil ?_
        | refine wk_cons ?_)
      exact r_nx n (by rw [e, if_neg (by simp)])
  · subst hn
    repeat' (first
      | (refine k_L ?_; refine a_p rfl ?_)
      | refine a_n ?_
      | (refine k_V ?_; first | refine v_seq ?_ | refine v_reg ?_ | refine v_ret ?_))
    exact fa_r (As' := [slA 1 bv sd L, ro m]) (fun _ _ => rfl) (Pm.ent (by (fail_if_success apply pm_bad); (repeat (first | exact pm_nil | (apply pm_cons; repeat (first | exact pk_h | apply pk_t)))); fail_if_success focus skip)) ⟨rfl, rfl⟩
theorem l2sum_a {m : Mem} {a : Nat} {x : HX} {sd : D} {L : List Bool} (h : Has m (hp a x)) (h1 : R1 x.H) (h2 : R2 x.H) (hL : L.length = x.xs.length) (hu1 : ∀ (i : Nat) c, L[i]? = some true → x.H.cells[i]? = some c → c.state = 1) :
    FnA Try.prog 113 [ptr a, .slice sd.a L.length sd.cap] [slA 1 bv sd L, ro m] (fun v As => v = .int .i64 (sumT x.H L x.xs.length) ∧ As = [slA 1 bv sd L, ro m]) := by
  have hb0 := h.lens
  have hl := x.len
  have hc1 := h1.cells
  have hc2 := h1.room
  rw [← hL]
  refine fnA_of (fun h => fn113 (by simp) h) ?_
  repeat' (first
    | (refine k_L ?_; refine a_p rfl ?_)
    | refine a_n ?_
    | (refine k_V ?_; first | refine v_seq ?_ | refine v_reg ?_)
    | refine s_n ?_)
  refine g_range L.length (fun n : Int => [(0, .v (ptr a)), (5, .v (.int .i64 n)), (8, .v (.slice sd.a L.length sd.cap))]) (fun _ => [slA 1 bv sd L, ro m]) (fun i n => n = sumT x.H L i) 0 rfl (fun i n hi hn => ?_) (fun n hn => ?_)
  · obtain ⟨y, gy, gc⟩ := HX.at (x := x) (i := i) (by omega)
    have gi := getC_nat gc
    have hs := sumT_le h2 L i
    have hpl := h2.pl (List.mem_of_getElem? gc)
    obtain ⟨b, gb⟩ : ∃ b, L[i]? = some b := ⟨_, List.getElem?_eq_getElem (by omega)⟩
    have e : sumT x.H L (i + 1) = if b = true then n + y.c.units else n := by
      show (if _ then _ else _) = _
      rw [gb, gi, ← hn]; simp
    cases b with
    | true =>
      have hst := hu1 i y.c gb gc
      repeat' (first
        | (refine k_L ?_; first | (refine k_ad ?_; refine g_ad rfl rfl ?_) | refine a_p rfl ?_ | (refine k_l ?_; refine g_l rfl ?_) | (refine k_i ?_; refine g_i rfl rfl ?_))
        | refine a_n ?_
        | (refine k_V ?_; first | refine v_seq ?_ | refine v_reg ?_ | refine v_ct rfl ?_))
      exact r_nx (n + (1 + y.c.pairs.length)) (by rw [e, if_pos rfl]; unfold Cell.units; rw [if_pos hst])
    | false =>
      repeat' (first
        | (refine k_L ?_; first | refine a_p rfl ?_ | (refine k_l ?_; refine g_l rfl ?_) | (refine k_i ?_; refine g_i rfl rfl ?_))
        | refine a_n ?_
        | (refine k_V ?_; first | refine v_seq ?_ | refine v_reg ?_ | refine v_skip ?_ | refine v_cf rfl ?_))
      exact r_nx n (by rw [e, if_neg (by simp)])
  · subst hn
    repeat' (first
      | (refine k_L ?_; refine a_p rfl ?_)
      | refine a_n ?_
      | (refine k_V ?_; first | refine v_seq ?_ | refine v_reg ?_ | refine v_ret ?_))
    exact fa_r (As' := [slA 1 bv sd L, ro m]) (fun _ _ => rfl) (Pm.ent (by (fail_if_success apply pm_bad); (repeat (first | exact pm_nil | (apply pm_cons; repeat (first | exact pk_h | apply pk_t)))); fail_if_success focus skip)) ⟨rfl, rfl⟩
/-- the memory as it is now, only to be read from here on -/
theorem l_fix {P : Program} {l : List I} {post : St → List Asr → Prop} {S : St} {As : List Asr} (h : ∀ m, star As m → LA P l post S [ro m]) : LA P l post S As := ⟨fun m hm => (h m hm).out m ⟨m, emp, disj_emp _, (un_emp _).symm, rfl, rfl⟩⟩
theorem v_fix {E : Env} {c : C} {Q : X → St → List Asr → Prop} {S : St} {As : List Asr} (h : ∀ m, star As m → VA E c Q S [ro m]) : VA E c Q S As := ⟨fun m hm => (h m hm).out m ⟨m, emp, disj_emp _, (un_emp _).symm, rfl, rfl⟩⟩
theorem ent_ro {m m' : Mem} (l : m.le m') : Ent [ro m'] [ro m] := ⟨fun k hk => by
  obtain ⟨a, b, d, rfl, h1, h2⟩ := hk
  have h1 : a = m' := h1
  have h2 : b = emp := h2
  subst h1; subst h2
  rw [un_emp]
  exact ⟨m, l, m, emp, disj_emp _, (un_emp _).symm, rfl, rfl⟩⟩
noncomputable def Heap.live (H : Heap) : Int := if okH H = 0 then sumT H (reachL H) H.cells.length else 0
theorem reachL_len (H : Heap) : (reachL H).length = H.cells.length := by simp [reachL]
theorem implLive_q {m : Mem} {x : HX} (h : Has m x.body) : Qt Try.prog 41 [x.v] m (.int .i64 x.H.live) := by
  unfold Heap.live
  by_cases hS : okH x.H = 0
  · have hs1 := (okH_sound x.H).1 hS
    refine qt_of (fnA_of (fun h => fn41 (by simp) h) ?_)
    refine v_seq (v_reg (a_nwh x rfl (fun b => ?_)))
    have hs : ∀ m', star [hdA b x.hdr, ro m] m' → Has m' (hp b x) := fun m' s => has_new h s (by (fail_if_success apply pm_bad); (repeat (first | exact pm_nil | (apply pm_cons; repeat (first | exact pk_h | apply pk_t)))); fail_if_success focus skip) (F := [])
    have hr : ∀ m', star [hdA b x.hdr, ro m] m' → m.le m' := fun m' s => ro_of s (by (fail_if_success apply pm_bad); (repeat (first | exact pm_nil | (apply pm_cons; repeat (first | exact pk_h | apply pk_t)))); fail_if_success focus skip) (F := [hdA b x.hdr])
    repeat' (first
      | (refine k_L ?_; first | refine a_p rfl ?_ | (refine k_ls ?_; refine g_ls rfl ?_) | (refine k_c ?_; refine a_cq rfl (fun m hm => qt_e (sound_q (x := x) (has_g h hm)) (congrArg Value.bool (decide_eq_true hS))) ?_))
      | refine a_n ?_
      | (refine k_V ?_; first | refine v_seq ?_ | refine v_reg ?_ | refine v_skip ?_ | refine v_cf rfl ?_))
    refine l_fix (fun m' hm' => ?_)
    refine g_c rfl (reach_a (hs m' hm') hs1.r1 hs1.r2 hs1.r4) (fun v As' hq => ?_)
    obtain ⟨sd, rfl, rfl⟩ := hq
    repeat' (first
      | (refine k_L ?_; first | (refine k_ad ?_; refine g_ad rfl rfl ?_) | (refine k_su ?_; refine g_su rfl rfl ?_) | (refine k_ml ?_; refine g_ml rfl rfl ?_) | refine a_p rfl ?_ | (refine k_g ?_; first | refine a_gy rfl rfl ?_ | refine a_gn rfl rfl ?_ | refine a_gu rfl ?_ | (refine a_gd rfl (fun hb => ?_) (fun hb => ?_) <;> try (exfalso; omega)) | (refine a_ge rfl (fun hb => ?_) (fun hb => ?_) <;> try (exfalso; omega)) | (refine a_gne rfl (fun hb => ?_) (fun hb => ?_) <;> try (exfalso; omega)) | (refine a_gnd rfl (fun hb => ?_) (fun hb => ?_) <;> try (exfalso; omega))) | (refine k_l ?_; refine g_l rfl ?_) | (refine k_i ?_; refine g_i rfl rfl ?_) | (refine k_ls ?_; refine g_ls rfl ?_) | (refine k_st ?_; first | refine g_st rfl rfl rfl rfl ?_ | refine g_sw rfl rfl rfl rfl (Nat.le_of_ble_eq_true rfl) ?_) | (refine k_al ?_; refine a_al ?_) | (refine k_bx ?_; refine a_bx rfl rfl ?_) | (refine k_bl ?_; refine a_bl rfl ?_) | (refine k_p ?_; first | (refine a_pd rfl (fun hb => ?_) (fun hb => ?_) <;> try (exfalso; omega)) | (refine a_pe rfl (fun hb => ?_) (fun hb => ?_) <;> try (exfalso; omega)) | (refine a_pne rfl (fun hb => ?_) (fun hb => ?_) <;> try (exfalso; omega)) | (refine a_pnd rfl (fun hb => ?_) (fun hb => ?_) <;> try (exfalso; omega))))
      | refine a_n ?_
      | (refine k_V ?_; first | refine v_rv ?_ | refine v_seq ?_ | refine v_reg ?_ | refine v_dreg ?_ | refine v_zreg ?_ | refine v_bs ?_ | refine v_br ?_ | refine v_bd ?_ | refine v_bc ?_ | refine v_bk ?_ | refine v_bb ?_ | refine v_ret ?_ | refine v_exit ?_ | refine v_skip ?_ | refine v_ct rfl ?_ | refine v_cf rfl ?_ | (refine v_cd rfl (fun hb => ?_) (fun hb => ?_) <;> try (exfalso; omega)) | (refine v_ce rfl (fun hb => ?_) (fun hb => ?_) <;> try (exfalso; omega)) | (refine v_cn rfl (fun hb => ?_) (fun hb => ?_) <;> try (exfalso; omega)) | (refine v_cnd rfl (fun hb => ?_) (fun hb => ?_) <;> try (exfalso; omega)))
      | refine s_n ?_
      | refine s_r ?_
      | refine s_e ?_
      | refine b_n ?_
      | refine b_r ?_
      | refine b_e ?_
      | refine b_o rfl ?_
      | refine r_rt ?_
      | refine r_bk rfl ?_
      | refine r_ex rfl rfl ?_
      | refine sk_zero ?_
      | refine sk_succ ?_
      | refine wk_nil ?_
      | refine wk_cons ?_)
    refine g_c rfl (sum_a (L := reachL x.H) (hs m' hm') hs1.r1 hs1.r2 (by rw [reachL_len, x.len])) (fun v As' hq => ?_)
    obtain ⟨rfl, rfl⟩ := hq
    repeat' (first
      | (refine k_L ?_; refine a_p rfl ?_)
      | refine a_n ?_
      | (refine k_V ?_; refine v_ret ?_))
    exact fa_r (As' := [ro m]) (fun _ _ => rfl) ((Pm.ent (As1 := [ro m']) (by (fail_if_success apply pm_bad); (repeat (first | exact pm_nil | (apply pm_cons; repeat (first | exact pk_h | apply pk_t)))); fail_if_success focus skip)).trans (ent_ro (hr m' hm'))) ⟨by rw [if_pos hS, x.len], rfl⟩
  · refine qt_of (fnA_of (fun h => fn41 (by simp) h) ?_)
    refine v_seq (v_reg (a_nwh x rfl (fun b => ?_)))
    repeat' (first
      | (refine k_L ?_; first | refine a_p rfl ?_ | (refine k_ls ?_; refine g_ls rfl ?_) | (refine k_c ?_; refine a_cq rfl (fun m hm => qt_e (sound_q (x := x) (has_g h hm)) (congrArg Value.bool (decide_eq_false hS))) ?_))
      | refine a_n ?_
      | (refine k_V ?_; first | refine v_rv ?_ | refine v_seq ?_ | refine v_reg ?_ | refine v_ct rfl ?_)
      | refine s_r ?_)
    exact fa_q (by simp) (fun _ _ => rfl) (by rw [if_neg hS])
end Go.Proofs.Ytcmllambknfleaa.E
/- What is reached, the reference's: one word marked, what is wanted. Conditions: none. -/
set_option linter.unusedVariables false
set_option linter.unusedSimpArgs false
set_option maxHeartbeats 8000000
set_option maxRecDepth 100000
namespace Go.Proofs.Ytcmllambknfleaa.E
open Go
open Classical
theorem l2mark_a {m : Mem} {a : Nat} {x : HX} {w : Word} {s : List Bool × List Int} {S : Nat → Prop} {sd kd : D} (h : Has m (hp a x)) (h1 : R1 x.H) (h2 : R2 x.H) (hf : Formed x.H w) (hk : Mk x.H S s) :
    FnA Try.prog 151 [ptr a, .slice sd.a s.1.length sd.cap, .slice kd.a s.2.length kd.cap, wa w] [slA 1 bv sd s.1, slA 1 iv kd s.2, ro m] (fun v As => ∃ kd' : D, v = .slice kd'.a (mkW x.H s w).2.length kd'.cap ∧ As = [slA 1 bv sd (mkW x.H s w).1, slA 1 iv kd' (mkW x.H s w).2, ro m]) := by
  have hc := h1.cells
  have hr := h1.room
  have hcn := hk.cnt
  have hln := hk.len
  refine fnA_of (fun h => fn151 (by simp) h) ?_
  have hat := fun hk2 => hf.at hk2
  by_cases hk2 : w.kind = 2
  · have ht : x.H.tgt w = some (x.H.lead w).at_.toNat := by unfold Heap.tgt; rw [if_pos (lead_kind.2 hk2)]
    have hl := tgt_lt h2 hf ht
    generalize (x.H.lead w).at_.toNat = j at ht hl
    have e : x.H.lead w = ⟨2, (x.H.lead w).num, (j : Int)⟩ := by rw [← hl.2.1, ← hl.2.2]
    cases hb : s.1[j]? with
    | none => rw [List.getElem?_eq_none_iff] at hb; omega
    | some b =>
      cases b with
      | true =>
        have em : mkW x.H s w = s := by unfold mkW; rw [ht]; simp [hb]
        repeat' (first
          | (refine k_L ?_; first | refine a_p rfl ?_ | (refine k_g ?_; refine a_gy rfl rfl ?_) | (refine k_l ?_; refine g_l rfl ?_) | (refine k_i ?_; refine g_i rfl rfl ?_) | (refine k_st ?_; refine g_sw rfl rfl rfl rfl (Nat.le_of_ble_eq_true rfl) ?_) | (refine k_al ?_; refine a_al ?_) | (refine k_bx ?_; refine a_bx rfl rfl ?_) | (refine k_c ?_; refine a_cq rfl (fun m hm => qt_e (l1resolve_q (has_g h hm) hat) (congrArg wa e)) ?_))
          | refine a_n ?_
          | (refine k_V ?_; first | refine v_seq ?_ | refine v_reg ?_ | refine v_ret ?_ | refine v_ct rfl ?_)
          | refine s_r ?_
          | refine sk_zero ?_
          | refine sk_succ ?_
          | refine wk_nil ?_
          | refine wk_cons ?_)
        exact fa_r (As' := [slA 1 bv sd s.1, slA 1 iv kd s.2, ro m]) (fun _ _ => rfl) (Pm.ent (by (fail_if_success apply pm_bad); (repeat (first | exact pm_nil | (apply pm_cons; repeat (first | exact pk_h | apply pk_t)))); fail_if_success focus skip)) ⟨kd, by rw [em], by rw [em]⟩
      | false =>
        have em : mkW x.H s w = (s.1.set j true, s.2 ++ [(j : Int)]) := by unfold mkW; rw [ht]; simp [hb]
        repeat' (first
          | (refine k_L ?_; first | refine a_p rfl ?_ | (refine k_g ?_; refine a_gy rfl rfl ?_) | (refine k_l ?_; refine g_l rfl ?_) | (refine k_i ?_; refine g_i rfl rfl ?_) | (refine k_st ?_; first | refine g_st rfl rfl rfl rfl ?_ | refine g_sw rfl rfl rfl rfl (Nat.le_of_ble_eq_true rfl) ?_) | (refine k_al ?_; refine a_al ?_) | (refine k_bx ?_; refine a_bx rfl rfl ?_) | (refine k_bl ?_; refine a_bl rfl ?_) | (refine k_c ?_; refine a_cq rfl (fun m hm => qt_e (l1resolve_q (has_g h hm) hat) (congrArg wa e)) ?_) | (refine g_ai rfl rfl (by omega) (fun e' => ?_)))
          | refine a_n ?_
          | (refine k_V ?_; first | refine v_seq ?_ | refine v_reg ?_ | refine v_ret ?_ | refine v_skip ?_ | refine v_cf rfl ?_)
          | refine sk_zero ?_
          | refine sk_succ ?_
          | refine wk_nil ?_
          | refine wk_cons ?_)
        exact fa_r (As' := [slA 1 bv sd (s.1.set j true), slA 1 iv e' (s.2 ++ [(j : Int)]), ro m]) (fun _ _ => rfl) (Pm.ent (by (fail_if_success apply pm_bad); (repeat (first | exact pm_nil | (apply pm_cons; repeat (first | exact pk_h | apply pk_t)))); fail_if_success focus skip)) ⟨e', by rw [em], by rw [em]⟩
  · have ht : x.H.tgt w = none := by unfold Heap.tgt; rw [if_neg (fun h => hk2 (lead_kind.1 h))]
    have em : mkW x.H s w = s := by unfold mkW; rw [ht]
    have hk3 : ¬ (x.H.lead w).kind = 2 := fun h => hk2 (lead_kind.1 h)
    repeat' (first
      | (refine k_L ?_; first | refine a_p rfl ?_ | (refine k_g ?_; first | refine a_gn rfl rfl ?_ | (refine a_gne rfl (fun hb => ?_) (fun hb => ?_) <;> try (exfalso; omega))) | (refine k_st ?_; refine g_sw rfl rfl rfl rfl (Nat.le_of_ble_eq_true rfl) ?_) | (refine k_al ?_; refine a_al ?_) | (refine k_bx ?_; refine a_bx rfl rfl ?_) | (refine k_c ?_; refine a_cq rfl (fun m hm => l1resolve_q (has_g h hm) hat) ?_))
      | refine a_n ?_
      | (refine k_V ?_; first | refine v_seq ?_ | refine v_reg ?_ | refine v_ret ?_ | refine v_ct rfl ?_)
      | refine s_r ?_
      | refine sk_zero ?_
      | refine sk_succ ?_
      | refine wk_nil ?_
      | refine wk_cons ?_)
    all_goals first | exact absurd ‹(x.H.lead w).kind = 2› hk3 | skip
    exact fa_r (As' := [slA 1 bv sd s.1, slA 1 iv kd s.2, ro m]) (fun _ _ => rfl) (Pm.ent (by (fail_if_success apply pm_bad); (repeat (first | exact pm_nil | (apply pm_cons; repeat (first | exact pk_h | apply pk_t)))); fail_if_success focus skip)) ⟨kd, by rw [em], by rw [em]⟩
/-- the places of the roots -/
noncomputable def rootsTo (H : Heap) (i : Nat) : List Int := ((List.range i).filter fun k : Nat => decide (Root (H.getC k))).map fun k : Nat => (k : Int)
theorem rootsTo_next (H : Heap) (i : Nat) : rootsTo H (i + 1) = if Root (H.getC i) then rootsTo H i ++ [(i : Int)] else rootsTo H i := by
  unfold rootsTo
  rw [List.range_succ, List.filter_append, List.map_append]
  by_cases h : Root (H.getC i) <;> simp [h]
theorem rootsTo_mem {H : Heap} {i : Nat} {g : Int} (h : g ∈ rootsTo H i) : ∃ k : Nat, k < i ∧ Root (H.getC k) ∧ g = k := by
  unfold rootsTo at h
  obtain ⟨k, hk, e⟩ := List.mem_map.1 h
  rw [List.mem_filter, List.mem_range] at hk
  exact ⟨k, hk.1, by simpa using hk.2, e.symm⟩
theorem rootsTo_len (H : Heap) (i : Nat) : (rootsTo H i).length ≤ i := by
  unfold rootsTo
  rw [List.length_map]
  exact Nat.le_trans (List.length_filter_le _ _) (by simp)
theorem swap_perm {L : List Int} : ∀ {k : Nat} {a b : Int}, L[k]? = some a → L[k + 1]? = some b → ((L.set k b).set (k + 1) a).Perm L := by
  induction L with
  | nil => intro k a b h; simp at h
  | cons c r ih =>
    intro k a b h1 h2
    cases k with
    | zero =>
      simp only [List.getElem?_cons_zero, Option.some.injEq] at h1
      subst h1
      cases r with
      | nil => simp at h2
      | cons d r =>
        simp at h2
        subst h2
        exact List.Perm.swap _ _ _
    | succ k =>
      simp only [List.getElem?_cons_succ] at h1 h2
      exact (ih h1 h2).cons c
theorem l2wants_a {m : Mem} {a : Nat} {x : HX} (h : Has m (hp a x)) (h1 : R1 x.H) : FnA Try.prog 153 [ptr a] [ro m] (fun v As => ∃ (ld : D) (L : List Int), v = .slice ld.a L.length ld.cap ∧ L.Perm (rootsTo x.H x.H.cells.length) ∧ As = [slA 1 iv ld L, ro m]) := by
  have hb0 := h.lens
  have hl := x.len
  have hc1 := h1.cells
  have hc2 := h1.room
  refine fnA_of (fun h => fn153 (by simp) h) ?_
  repeat' (first
    | (refine k_L ?_; first | refine a_p rfl ?_ | (refine k_l ?_; refine g_l rfl ?_))
    | refine a_n ?_
    | (refine k_V ?_; first | refine v_seq ?_ | refine v_reg ?_)
    | refine s_n ?_)
  refine VA.ent (ent_new (f := iv) (size := 1)) ?_
  refine g_range x.xs.length (fun q : List Int × D => [(0, .v (ptr a)), (3, .v (.slice q.2.a q.1.length q.2.cap)), (12, .v (.slice x.cd.a x.xs.length x.cd.cap))]) (fun q => [slA 1 iv q.2 q.1, ro m]) (fun i q => q.1.Perm (rootsTo x.H i)) (([], ⟨none, 0⟩) : List Int × D) (by simp [rootsTo]) (fun i q hi hv => ?_) (fun q hv => ?_)
  · obtain ⟨L, ld⟩ := q
    dsimp only at hv ⊢
    obtain ⟨y, gy, gc⟩ := HX.at hi
    have gi := getC_nat gc
    have hlen := hv.length_eq
    have hle := rootsTo_len x.H i
    have hnx := rootsTo_next x.H i
    rw [gi] at hnx
    by_cases hr : Root y.c
    · rw [if_pos hr] at hnx
      obtain ⟨hr1, hr2⟩ := hr
      have hla : (L ++ [(i : Int)]).length = L.length + 1 := by simp
      repeat' (first
        | (refine k_L ?_; first | (refine k_su ?_; refine g_su rfl rfl ?_) | refine a_p rfl ?_ | (refine k_g ?_; first | refine a_gy rfl rfl ?_ | refine a_gn rfl rfl ?_ | (refine a_gne rfl (fun hb => ?_) (fun hb => ?_) <;> try (exfalso; omega))) | (refine k_i ?_; refine g_i rfl rfl ?_) | (refine k_ls ?_; refine g_ls rfl ?_) | (refine k_st ?_; refine g_sw rfl rfl rfl rfl (Nat.le_of_ble_eq_true rfl) ?_) | (refine k_al ?_; refine a_al ?_) | (refine k_bl ?_; refine a_bl rfl ?_) | (refine g_ai rfl rfl (by omega) (fun e' => ?_)))
        | refine a_n ?_
        | (refine k_V ?_; first | refine v_seq ?_ | refine v_reg ?_ | refine v_skip ?_ | refine v_cf rfl ?_ | (refine v_cn rfl (fun hb => ?_) (fun hb => ?_) <;> try (exfalso; omega)))
        | refine s_n ?_
        | refine sk_zero ?_
        | refine sk_succ ?_
        | refine wk_nil ?_
        | refine wk_cons ?_)
      all_goals
        refine v_blk ?_
        refine v_loop (fun q : List Int × Nat => [(0, .v (ptr a)), (3, .v (.slice e'.a (L ++ [(i : Int)]).length e'.cap)), (6, .v (.int .i64 q.2)), (12, .v (.slice x.cd.a x.xs.length x.cd.cap)), (13, .v (.int .i64 x.xs.length)), (14, .v (.int .i64 i))]) (fun q => [slA 1 iv e' q.1, ro m])
          (fun k q => k = q.2 ∧ q.2 < q.1.length ∧ q.1.Perm (rootsTo x.H (i + 1))) ⟨_, (L ++ [(i : Int)], L.length), ⟨rfl, rfl, (by show SV.v (.int .i64 (((L ++ [(i : Int)]).length : Int) - 1)) = SV.v (.int .i64 (L.length : Int)); rw [hla]; congr 2; omega), rfl, rfl, rfl, trivial⟩, Ent.refl _, rfl, by simp, by rw [hnx]; exact hv.append (List.Perm.refl _)⟩ ?_
        rintro k ⟨L', k2⟩ ⟨e, hk, hp⟩
        dsimp only at e hk hp ⊢
        subst e
        have hlen2 := hp.length_eq
        have hle2 := rootsTo_len x.H (i + 1)
        have hn0 : (L ++ [(i : Int)]).length = L'.length := by
          rw [hlen2, hnx]; simp [hlen]
        rw [hn0]
        cases k with
        | zero =>
          repeat' (first
            | (refine k_L ?_; first | refine a_p rfl ?_ | (refine k_g ?_; refine a_gn rfl rfl ?_))
            | refine a_n ?_
            | (refine k_V ?_; first | refine v_seq ?_ | refine v_dreg ?_ | refine v_exit ?_ | refine v_cf rfl ?_)
            | refine s_e ?_
            | refine b_e ?_)
          exact r_nx ((L', e') : List Int × D) hp
        | succ k =>
          obtain ⟨u, gu⟩ : ∃ u, L'[k]? = some u := ⟨_, List.getElem?_eq_getElem (by omega)⟩
          obtain ⟨v, gv⟩ : ∃ v, L'[k + 1]? = some v := ⟨_, List.getElem?_eq_getElem (by omega)⟩
          obtain ⟨ju, hju, hru, eu⟩ := rootsTo_mem (hp.mem_iff.1 (List.mem_of_getElem? gu))
          obtain ⟨jv, hjv, hrv, ev⟩ := rootsTo_mem (hp.mem_iff.1 (List.mem_of_getElem? gv))
          subst eu; subst ev
          obtain ⟨yu, gyu, gcu⟩ := HX.at (x := x) (i := ju) (by omega)
          obtain ⟨yv, gyv, gcv⟩ := HX.at (x := x) (i := jv) (by omega)
          have ek : (((k + 1 : Nat) : Int) - 1).toNat = k := by omega
          have gu' : L'[(((k + 1 : Nat) : Int) - 1).toNat]? = some (ju : Int) := by rw [ek]; exact gu
          have gs : (L'.set (((k + 1 : Nat) : Int) - 1).toNat (jv : Int))[k + 1]? = some (jv : Int) := by rw [ek, List.getElem?_set_ne (by omega)]; exact gv
          repeat' (first
            | (refine k_L ?_; first | (refine k_su ?_; refine g_su rfl rfl ?_) | refine a_p rfl ?_ | (refine k_g ?_; first | refine a_gy rfl rfl ?_ | (refine a_gd rfl (fun hb => ?_) (fun hb => ?_) <;> try (exfalso; omega))) | (refine k_l ?_; refine g_l rfl ?_) | (refine k_i ?_; refine g_i rfl rfl ?_) | (refine k_st ?_; refine g_st rfl rfl rfl rfl ?_))
            | refine a_n ?_
            | (refine k_V ?_; first | refine v_seq ?_ | refine v_reg ?_ | refine v_dreg ?_ | refine v_bs ?_ | refine v_exit ?_ | refine v_skip ?_ | (refine v_cd rfl (fun hb => ?_) (fun hb => ?_) <;> try (exfalso; omega)))
            | refine s_n ?_
            | refine s_e ?_
            | refine b_e ?_)
          · refine ⟨_, ((L'.set k (jv : Int)).set (k + 1) (ju : Int), k), ?_, ⟨rfl, rfl, (by show SV.v (.int .i64 (((k + 1 : Nat) : Int) - 1)) = SV.v (.int .i64 (k : Int)); congr 2; omega), rfl, rfl, rfl, trivial⟩, (by rw [ek]; exact Ent.refl _), rfl, (by simp only [List.length_set]; omega), (swap_perm gu gv).trans hp⟩
            omega
          · exact r_nx ((L', e') : List Int × D) hp
    · rw [if_neg hr] at hnx
      unfold Root at hr
      repeat' (first
        | (refine k_L ?_; first | refine a_p rfl ?_ | (refine k_g ?_; first | refine a_gy rfl rfl ?_ | refine a_gn rfl rfl ?_ | refine a_gu rfl ?_ | (refine a_gne rfl (fun hb => ?_) (fun hb => ?_) <;> try (exfalso; omega))) | (refine k_i ?_; refine g_i rfl rfl ?_) | (refine k_ls ?_; refine g_ls rfl ?_) | (refine k_st ?_; refine g_sw rfl rfl rfl rfl (Nat.le_of_ble_eq_true rfl) ?_) | (refine k_al ?_; refine a_al ?_))
        | refine a_n ?_
        | (refine k_V ?_; first | refine v_seq ?_ | refine v_reg ?_ | refine v_exit ?_ | refine v_ct rfl ?_ | (refine v_cn rfl (fun hb => ?_) (fun hb => ?_) <;> try (exfalso; omega)))
        | refine s_e ?_
        | refine sk_zero ?_
        | refine sk_succ ?_
        | refine wk_nil ?_
        | refine wk_cons ?_)
      all_goals exact r_ct ((L, ld) : List Int × D) (by rw [hnx]; exact hv)
  · obtain ⟨L, ld⟩ := q
    dsimp only at hv ⊢
    repeat' (first
      | (refine k_L ?_; refine a_p rfl ?_)
      | refine a_n ?_
      | (refine k_V ?_; first | refine v_seq ?_ | refine v_reg ?_ | refine v_ret ?_))
    exact fa_r (As' := [slA 1 iv ld L, ro m]) (fun _ _ => rfl) (Pm.ent (by (fail_if_success apply pm_bad); (repeat (first | exact pm_nil | (apply pm_cons; repeat (first | exact pk_h | apply pk_t)))); fail_if_success focus skip)) ⟨ld, L, rfl, by rw [hl]; exact hv, rfl⟩
end Go.Proofs.Ytcmllambknfleaa.E
