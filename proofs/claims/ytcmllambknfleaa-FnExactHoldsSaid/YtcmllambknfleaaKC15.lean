/- The functions of the program in the engine's form, written by a program out of the loaded translation, and checked against it by the kernel. Conditions: none. -/
import Derived.Test.YtcmllambknfleaaKC14
set_option maxRecDepth 100000
set_option linter.unusedVariables false
namespace Go.Proofs.Ytcmllambknfleaa.E
open Go
/-! (*impl.Heap).holds -/
noncomputable def e115 : Env := ⟨Try.prog, [8, 10, 13, 14, 16, 139], 143, []⟩
noncomputable def c115 : C :=
  .seq (.reg [
    ⟨some 1, none, .box false (.tmp 0)⟩,
    ⟨some 2, none, .mov (.const (.slice none 0 0))⟩]) (.seq (.reg [
    ⟨some 18, none, .load true 1 (.tmp 1)⟩,
    ⟨some 19, none, .nilCheck (.tmp 18)⟩,
    ⟨some 20, none, .faddr 4 (.tmp 19)⟩,
    ⟨some 21, none, .load true 1 (.tmp 20)⟩,
    ⟨some 22, none, .lenS (.tmp 21)⟩,
    ⟨some 23, none, .mkslice 1 1 [.bool false] (.tmp 22) (.tmp 22)⟩,
    ⟨some 3, none, .alloc false [.slice none 0 0]⟩,
    ⟨none, none, .store 1 (.tmp 3) (.tmp 23)⟩]) (.seq (.reg [
    ⟨some 24, none, .mkmap⟩,
    ⟨some 4, none, .mov (.tmp 24)⟩]) (.seq (.reg [
    ⟨some 5, none, .alloc false [.slice none 0 0]⟩]) (.seq (.reg [
    ⟨some 25, none, .mkfn 152 [] [.tmp 1, .tmp 3, .tmp 5]⟩,
    ⟨some 6, none, .mov (.tmp 25)⟩]) (.seq (.seq (.reg [
    ⟨some 26, none, .load true 1 (.tmp 1)⟩,
    ⟨some 27, none, .nilCheck (.tmp 26)⟩,
    ⟨some 28, none, .faddr 3 (.tmp 27)⟩,
    ⟨some 29, none, .load true 1 (.tmp 28)⟩,
    ⟨some 30, none, .lenS (.tmp 29)⟩,
    ⟨some 31, none, .mov (.const (.int .i64 0))⟩]) (.block 0 (.loop (.seq (.reg [
    ⟨some 32, none, .bin .lss (.tmp 31) (.tmp 30)⟩]) (.seq (.cond (.tmp 32) (.skip) (.exit 0)) (.seq (.block 1 (.seq (.reg [
    ⟨some 33, none, .iaddr 3 (.tmp 29) (.tmp 31)⟩,
    ⟨some 34, none, .load false 3 (.tmp 33)⟩,
    ⟨some 8, none, .alloc true [.int .i64 0, .int .i64 0, .int .i64 0]⟩,
    ⟨none, none, .store 3 (.tmp 8) (.tmp 34)⟩]) (.reg [
    ⟨some 35, none, .mov (.tmp 6)⟩,
    ⟨some 36, none, .load false 3 (.tmp 8)⟩,
    ⟨some 37, none, .callv (.tmp 35) [.tmp 36]⟩]))) (.reg [
    ⟨some 38, none, .bin .add (.tmp 31) (.const (.int .i64 1))⟩,
    ⟨some 31, none, .mov (.tmp 38)⟩]))))))) (.seq (.seq (.reg [
    ⟨some 39, none, .load true 1 (.tmp 1)⟩,
    ⟨some 40, none, .nilCheck (.tmp 39)⟩,
    ⟨some 41, none, .faddr 4 (.tmp 40)⟩,
    ⟨some 42, none, .load true 1 (.tmp 41)⟩,
    ⟨some 43, none, .lenS (.tmp 42)⟩,
    ⟨some 44, none, .mov (.const (.int .i64 0))⟩]) (.block 2 (.loop (.seq (.reg [
    ⟨some 45, none, .bin .lss (.tmp 44) (.tmp 43)⟩]) (.seq (.cond (.tmp 45) (.skip) (.exit 2)) (.seq (.block 3 (.seq (.reg [
    ⟨some 46, none, .mov (.tmp 44)⟩,
    ⟨some 47, none, .iaddr 8 (.tmp 42) (.tmp 44)⟩,
    ⟨some 48, none, .load false 8 (.tmp 47)⟩,
    ⟨some 10, none, .alloc true [.int .i64 0, .int .i64 0, .int .i64 0, .int .i64 0, .int .i64 0, .int .i64 0, .int .i64 0, .slice none 0 0]⟩,
    ⟨some 9, none, .mov (.tmp 46)⟩,
    ⟨none, none, .store 8 (.tmp 10) (.tmp 48)⟩]) (.seq (.reg [
    ⟨some 49, none, .faddr 0 (.tmp 10)⟩,
    ⟨some 50, none, .load true 1 (.tmp 49)⟩,
    ⟨some 51, none, .bin .eql (.tmp 50) (.const (.int .i64 1))⟩,
    ⟨some 52, none, .mov (.tmp 51)⟩,
    ⟨some 53, some (52, true), .faddr 3 (.tmp 10)⟩,
    ⟨some 54, some (52, true), .load true 1 (.tmp 53)⟩,
    ⟨some 55, some (52, true), .bin .eql (.tmp 54) (.const (.int .i64 2))⟩,
    ⟨some 56, none, .pick (.tmp 52) (.tmp 55) (.const (.bool false))⟩]) (.cond (.tmp 56) (.reg [
    ⟨some 57, none, .mov (.tmp 6)⟩,
    ⟨some 58, none, .mov (.tmp 9)⟩,
    ⟨some 59, none, .build [.int .i64 0, .int .i64 0, .int .i64 0] [(0, 1, .const (.int .i64 2)), (2, 1, .tmp 58)]⟩,
    ⟨some 60, none, .callv (.tmp 57) [.tmp 59]⟩]) (.skip))))) (.reg [
    ⟨some 61, none, .bin .add (.tmp 44) (.const (.int .i64 1))⟩,
    ⟨some 44, none, .mov (.tmp 61)⟩]))))))) (.seq (.block 4 (.loop (.seq (.seq (.reg [
    ⟨some 62, none, .load true 1 (.tmp 5)⟩,
    ⟨some 63, none, .lenS (.tmp 62)⟩,
    ⟨some 64, none, .bin .gtr (.tmp 63) (.const (.int .i64 0))⟩]) (.cond (.tmp 64) (.skip) (.exit 4))) (.block 5 (.seq (.reg [
    ⟨some 65, none, .load true 1 (.tmp 5)⟩,
    ⟨some 66, none, .load true 1 (.tmp 5)⟩,
    ⟨some 67, none, .lenS (.tmp 66)⟩,
    ⟨some 68, none, .bin .sub (.tmp 67) (.const (.int .i64 1))⟩,
    ⟨some 69, none, .iaddr 1 (.tmp 65) (.tmp 68)⟩,
    ⟨some 70, none, .load true 1 (.tmp 69)⟩,
    ⟨some 11, none, .mov (.tmp 70)⟩]) (.seq (.reg [
    ⟨some 71, none, .load true 1 (.tmp 5)⟩,
    ⟨some 72, none, .load true 1 (.tmp 5)⟩,
    ⟨some 73, none, .lenS (.tmp 72)⟩,
    ⟨some 74, none, .bin .sub (.tmp 73) (.const (.int .i64 1))⟩,
    ⟨some 75, none, .slc 1 (.tmp 71) none (some (.tmp 74))⟩,
    ⟨none, none, .store 1 (.tmp 5) (.tmp 75)⟩]) (.seq (.seq (.reg [
    ⟨some 76, none, .mov (.tmp 4)⟩,
    ⟨some 77, none, .mov (.tmp 11)⟩,
    ⟨some 78, none, .look true (.slice none 0 0) false (.tmp 76) (.tmp 77)⟩,
    ⟨some 79, none, .lenS (.tmp 78)⟩,
    ⟨some 80, none, .mov (.const (.int .i64 0))⟩]) (.block 6 (.loop (.seq (.reg [
    ⟨some 81, none, .bin .lss (.tmp 80) (.tmp 79)⟩]) (.seq (.cond (.tmp 81) (.skip) (.exit 6)) (.seq (.block 7 (.seq (.reg [
    ⟨some 82, none, .iaddr 3 (.tmp 78) (.tmp 80)⟩,
    ⟨some 83, none, .load false 3 (.tmp 82)⟩,
    ⟨some 13, none, .alloc true [.int .i64 0, .int .i64 0, .int .i64 0]⟩,
    ⟨none, none, .store 3 (.tmp 13) (.tmp 83)⟩]) (.reg [
    ⟨some 84, none, .mov (.tmp 6)⟩,
    ⟨some 85, none, .load false 3 (.tmp 13)⟩,
    ⟨some 86, none, .callv (.tmp 84) [.tmp 85]⟩]))) (.reg [
    ⟨some 87, none, .bin .add (.tmp 80) (.const (.int .i64 1))⟩,
    ⟨some 80, none, .mov (.tmp 87)⟩]))))))) (.seq (.reg [
    ⟨some 88, none, .mov (.tmp 4)⟩,
    ⟨some 89, none, .mov (.tmp 11)⟩,
    ⟨none, none, .mdel (.tmp 88) (.tmp 89)⟩]) (.seq (.reg [
    ⟨some 90, none, .load true 1 (.tmp 1)⟩,
    ⟨some 91, none, .nilCheck (.tmp 90)⟩,
    ⟨some 92, none, .faddr 4 (.tmp 91)⟩,
    ⟨some 93, none, .load true 1 (.tmp 92)⟩,
    ⟨some 94, none, .mov (.tmp 11)⟩,
    ⟨some 95, none, .iaddr 8 (.tmp 93) (.tmp 94)⟩,
    ⟨some 96, none, .load false 8 (.tmp 95)⟩,
    ⟨some 14, none, .alloc true [.int .i64 0, .int .i64 0, .int .i64 0, .int .i64 0, .int .i64 0, .int .i64 0, .int .i64 0, .slice none 0 0]⟩,
    ⟨none, none, .store 8 (.tmp 14) (.tmp 96)⟩]) (.seq (.reg [
    ⟨some 97, none, .faddr 7 (.tmp 14)⟩,
    ⟨some 98, none, .load true 1 (.tmp 97)⟩,
    ⟨some 99, none, .lenS (.tmp 98)⟩,
    ⟨some 100, none, .mov (.const (.int .i64 0))⟩]) (.block 8 (.loop (.seq (.reg [
    ⟨some 101, none, .bin .lss (.tmp 100) (.tmp 99)⟩]) (.seq (.cond (.tmp 101) (.skip) (.exit 8)) (.seq (.block 9 (.seq (.reg [
    ⟨some 102, none, .iaddr 6 (.tmp 98) (.tmp 100)⟩,
    ⟨some 103, none, .load false 6 (.tmp 102)⟩,
    ⟨some 16, none, .alloc true [.int .i64 0, .int .i64 0, .int .i64 0, .int .i64 0, .int .i64 0, .int .i64 0]⟩,
    ⟨none, none, .store 6 (.tmp 16) (.tmp 103)⟩]) (.seq (.seq (.reg [
    ⟨some 104, none, .faddr 2 (.tmp 14)⟩,
    ⟨some 105, none, .load true 1 (.tmp 104)⟩,
    ⟨some 106, none, .bin .and (.tmp 105) (.const (.int .i64 1))⟩,
    ⟨some 107, none, .bin .eql (.tmp 106) (.const (.int .i64 0))⟩]) (.cond (.tmp 107) (.reg [
    ⟨some 108, none, .mov (.tmp 6)⟩,
    ⟨some 109, none, .faddr 0 (.tmp 16)⟩,
    ⟨some 110, none, .load false 3 (.tmp 109)⟩,
    ⟨some 111, none, .callv (.tmp 108) [.tmp 110]⟩]) (.skip))) (.seq (.seq (.reg [
    ⟨some 112, none, .faddr 2 (.tmp 14)⟩,
    ⟨some 113, none, .load true 1 (.tmp 112)⟩,
    ⟨some 114, none, .bin .and (.tmp 113) (.const (.int .i64 2))⟩,
    ⟨some 115, none, .bin .neq (.tmp 114) (.const (.int .i64 0))⟩]) (.cond (.tmp 115) (.exit 9) (.skip))) (.seq (.reg [
    ⟨some 116, none, .load true 1 (.tmp 1)⟩,
    ⟨some 117, none, .faddr 0 (.tmp 16)⟩,
    ⟨some 118, none, .load false 3 (.tmp 117)⟩,
    ⟨some 119, none, .call 150 [.tmp 116, .tmp 118]⟩,
    ⟨some 17, none, .mov (.tmp 119)⟩]) (.seq (.reg [
    ⟨some 120, none, .mov (.tmp 17)⟩,
    ⟨some 121, none, .bin .lss (.tmp 120) (.const (.int .i64 0))⟩,
    ⟨some 122, none, .mov (.tmp 121)⟩,
    ⟨some 123, some (122, false), .load true 1 (.tmp 3)⟩,
    ⟨some 124, some (122, false), .mov (.tmp 17)⟩,
    ⟨some 125, some (122, false), .iaddr 1 (.tmp 123) (.tmp 124)⟩,
    ⟨some 126, some (122, false), .load true 1 (.tmp 125)⟩,
    ⟨some 127, none, .pick (.tmp 122) (.const (.bool true)) (.tmp 126)⟩]) (.cond (.tmp 127) (.reg [
    ⟨some 128, none, .mov (.tmp 6)⟩,
    ⟨some 129, none, .faddr 3 (.tmp 16)⟩,
    ⟨some 130, none, .load false 3 (.tmp 129)⟩,
    ⟨some 131, none, .callv (.tmp 128) [.tmp 130]⟩]) (.reg [
    ⟨some 132, none, .mov (.tmp 4)⟩,
    ⟨some 133, none, .mov (.tmp 17)⟩,
    ⟨some 134, none, .mov (.tmp 4)⟩,
    ⟨some 135, none, .mov (.tmp 17)⟩,
    ⟨some 136, none, .look true (.slice none 0 0) false (.tmp 134) (.tmp 135)⟩,
    ⟨some 137, none, .faddr 3 (.tmp 16)⟩,
    ⟨some 138, none, .load false 3 (.tmp 137)⟩,
    ⟨some 139, none, .bslice true 1 3 [.int .i64 0, .int .i64 0, .int .i64 0] [(0, 3, .tmp 138)]⟩,
    ⟨some 140, none, .app 3 24 [.int .i64 0, .int .i64 0, .int .i64 0] (.tmp 136) (.tmp 139)⟩,
    ⟨none, none, .mupd (.tmp 132) (.tmp 133) (.tmp 140)⟩])))))))) (.reg [
    ⟨some 141, none, .bin .add (.tmp 100) (.const (.int .i64 1))⟩,
    ⟨some 100, none, .mov (.tmp 141)⟩])))))))))))))))) (.seq (.reg [
    ⟨some 142, none, .load true 1 (.tmp 3)⟩,
    ⟨some 2, none, .mov (.tmp 142)⟩]) (.ret)))))))))
theorem t115 : Try.f115.body.bind (trC e115) = some c115 := by kernel_rfl
theorem r115 : Try.f115.results.toList.mapM (trR Try.prog) = some [.tmp 2] := by kernel_rfl
theorem fn115 {args : List Value} {M : Mem} {post : Value → Mem → Prop} (hl : args.length ≤ 143) (h : VC e115 c115 (fnQ [.tmp 2] post) (initS args 143) M) : Fn Try.prog 115 args M post :=
  Fn.of' (E := e115) Try.func115 t115 rfl r115 mixed hl h
/-! impl.Holds -/
noncomputable def e50 : Env := ⟨Try.prog, [], 7, []⟩
noncomputable def c50 : C :=
  .seq (.reg [
    ⟨some 1, none, .box false (.tmp 0)⟩,
    ⟨some 2, none, .mov (.const (.slice none 0 0))⟩]) (.seq (.seq (.reg [
    ⟨some 3, none, .load false 13 (.tmp 1)⟩,
    ⟨some 4, none, .call 105 [.tmp 3]⟩,
    ⟨some 5, none, .not (.tmp 4)⟩]) (.cond (.tmp 5) (.seq (.reg [
    ⟨some 2, none, .mov (.const (.slice none 0 0))⟩]) (.ret)) (.skip))) (.seq (.reg [
    ⟨some 6, none, .call 115 [.tmp 1]⟩,
    ⟨some 2, none, .mov (.tmp 6)⟩]) (.ret)))
theorem t50 : Try.f50.body.bind (trC e50) = some c50 := by kernel_rfl
theorem r50 : Try.f50.results.toList.mapM (trR Try.prog) = some [.tmp 2] := by kernel_rfl
theorem fn50 {args : List Value} {M : Mem} {post : Value → Mem → Prop} (hl : args.length ≤ 7) (h : VC e50 c50 (fnQ [.tmp 2] post) (initS args 7) M) : Fn Try.prog 50 args M post :=
  Fn.of' (E := e50) Try.func50 t50 rfl r50 mixed hl h
/-! impl.Counted -/
noncomputable def e43 : Env := ⟨Try.prog, [], 8, []⟩
noncomputable def c43 : C :=
  .seq (.reg [
    ⟨some 1, none, .box false (.tmp 0)⟩,
    ⟨some 2, none, .mov (.const (.int .i64 0))⟩]) (.seq (.seq (.reg [
    ⟨some 3, none, .load false 13 (.tmp 1)⟩,
    ⟨some 4, none, .call 105 [.tmp 3]⟩,
    ⟨some 5, none, .not (.tmp 4)⟩]) (.cond (.tmp 5) (.seq (.reg [
    ⟨some 2, none, .mov (.const (.int .i64 0))⟩]) (.ret)) (.skip))) (.seq (.reg [
    ⟨some 6, none, .call 115 [.tmp 1]⟩,
    ⟨some 7, none, .call 111 [.tmp 1, .tmp 6]⟩,
    ⟨some 2, none, .mov (.tmp 7)⟩]) (.ret)))
theorem t43 : Try.f43.body.bind (trC e43) = some c43 := by kernel_rfl
theorem r43 : Try.f43.results.toList.mapM (trR Try.prog) = some [.tmp 2] := by kernel_rfl
theorem fn43 {args : List Value} {M : Mem} {post : Value → Mem → Prop} (hl : args.length ≤ 8) (h : VC e43 c43 (fnQ [.tmp 2] post) (initS args 8) M) : Fn Try.prog 43 args M post :=
  Fn.of' (E := e43) Try.func43 t43 rfl r43 mixed hl h
/-! spec.l2holds -/
noncomputable def e114 : Env := ⟨Try.prog, [6, 8, 11, 13, 14], 123, [(20, 11)]⟩
noncomputable def c114 : C :=
  .seq (.reg [
    ⟨some 2, none, .mov (.const (.slice none 0 0))⟩]) (.seq (.reg [
    ⟨some 15, none, .mov (.tmp 0)⟩,
    ⟨some 16, none, .nilCheck (.tmp 15)⟩,
    ⟨some 17, none, .faddr 4 (.tmp 16)⟩,
    ⟨some 18, none, .load true 1 (.tmp 17)⟩,
    ⟨some 19, none, .lenS (.tmp 18)⟩,
    ⟨some 20, none, .mkslice 1 1 [.bool false] (.tmp 19) (.tmp 19)⟩,
    ⟨some 3, none, .mov (.tmp 20)⟩]) (.seq (.reg [
    ⟨some 4, none, .mov (.const (.slice none 0 0))⟩]) (.seq (.seq (.reg [
    ⟨some 21, none, .mov (.tmp 0)⟩,
    ⟨some 22, none, .nilCheck (.tmp 21)⟩,
    ⟨some 23, none, .faddr 3 (.tmp 22)⟩,
    ⟨some 24, none, .load true 1 (.tmp 23)⟩,
    ⟨some 25, none, .lenS (.tmp 24)⟩,
    ⟨some 26, none, .mov (.const (.int .i64 0))⟩]) (.block 0 (.loop (.seq (.reg [
    ⟨some 27, none, .bin .lss (.tmp 26) (.tmp 25)⟩]) (.seq (.cond (.tmp 27) (.skip) (.exit 0)) (.seq (.block 1 (.seq (.reg [
    ⟨some 28, none, .iaddr 3 (.tmp 24) (.tmp 26)⟩,
    ⟨some 29, none, .load false 3 (.tmp 28)⟩,
    ⟨some 6, none, .alloc true [.int .i64 0, .int .i64 0, .int .i64 0]⟩,
    ⟨none, none, .store 3 (.tmp 6) (.tmp 29)⟩]) (.reg [
    ⟨some 30, none, .mov (.tmp 0)⟩,
    ⟨some 31, none, .mov (.tmp 3)⟩,
    ⟨some 32, none, .mov (.tmp 4)⟩,
    ⟨some 33, none, .load false 3 (.tmp 6)⟩,
    ⟨some 34, none, .call 151 [.tmp 30, .tmp 31, .tmp 32, .tmp 33]⟩,
    ⟨some 4, none, .mov (.tmp 34)⟩]))) (.reg [
    ⟨some 35, none, .bin .add (.tmp 26) (.const (.int .i64 1))⟩,
    ⟨some 26, none, .mov (.tmp 35)⟩]))))))) (.seq (.seq (.reg [
    ⟨some 36, none, .mov (.tmp 0)⟩,
    ⟨some 37, none, .nilCheck (.tmp 36)⟩,
    ⟨some 38, none, .faddr 4 (.tmp 37)⟩,
    ⟨some 39, none, .load true 1 (.tmp 38)⟩,
    ⟨some 40, none, .lenS (.tmp 39)⟩,
    ⟨some 41, none, .mov (.const (.int .i64 0))⟩]) (.block 2 (.loop (.seq (.reg [
    ⟨some 42, none, .bin .lss (.tmp 41) (.tmp 40)⟩]) (.seq (.cond (.tmp 42) (.skip) (.exit 2)) (.seq (.block 3 (.seq (.reg [
    ⟨some 43, none, .mov (.tmp 41)⟩,
    ⟨some 44, none, .iaddr 8 (.tmp 39) (.tmp 41)⟩,
    ⟨some 45, none, .load false 8 (.tmp 44)⟩,
    ⟨some 8, none, .alloc true [.int .i64 0, .int .i64 0, .int .i64 0, .int .i64 0, .int .i64 0, .int .i64 0, .int .i64 0, .slice none 0 0]⟩,
    ⟨some 7, none, .mov (.tmp 43)⟩,
    ⟨none, none, .store 8 (.tmp 8) (.tmp 45)⟩]) (.seq (.reg [
    ⟨some 46, none, .faddr 3 (.tmp 8)⟩,
    ⟨some 47, none, .load true 1 (.tmp 46)⟩,
    ⟨some 48, none, .bin .eql (.tmp 47) (.const (.int .i64 2))⟩]) (.cond (.tmp 48) (.reg [
    ⟨some 49, none, .mov (.tmp 0)⟩,
    ⟨some 50, none, .mov (.tmp 3)⟩,
    ⟨some 51, none, .mov (.tmp 4)⟩,
    ⟨some 52, none, .mov (.tmp 7)⟩,
    ⟨some 53, none, .build [.int .i64 0, .int .i64 0, .int .i64 0] [(0, 1, .const (.int .i64 2)), (2, 1, .tmp 52)]⟩,
    ⟨some 54, none, .call 151 [.tmp 49, .tmp 50, .tmp 51, .tmp 53]⟩,
    ⟨some 4, none, .mov (.tmp 54)⟩]) (.skip))))) (.reg [
    ⟨some 55, none, .bin .add (.tmp 41) (.const (.int .i64 1))⟩,
    ⟨some 41, none, .mov (.tmp 55)⟩]))))))) (.seq (.reg [
    ⟨some 9, none, .mov (.const (.int .i64 (-1)))⟩]) (.seq (.block 4 (.loop (.seq (.seq (.reg [
    ⟨some 56, none, .mov (.tmp 9)⟩,
    ⟨some 57, none, .mov (.tmp 4)⟩,
    ⟨some 58, none, .lenS (.tmp 57)⟩,
    ⟨some 59, none, .bin .neq (.tmp 56) (.tmp 58)⟩]) (.cond (.tmp 59) (.skip) (.exit 4))) (.block 5 (.seq (.reg [
    ⟨some 60, none, .mov (.tmp 4)⟩,
    ⟨some 61, none, .lenS (.tmp 60)⟩,
    ⟨some 9, none, .mov (.tmp 61)⟩]) (.seq (.reg [
    ⟨some 10, none, .mov (.const (.int .i64 0))⟩]) (.block 6 (.loop (.seq (.seq (.reg [
    ⟨some 62, none, .mov (.tmp 10)⟩,
    ⟨some 63, none, .mov (.tmp 4)⟩,
    ⟨some 64, none, .lenS (.tmp 63)⟩,
    ⟨some 65, none, .bin .lss (.tmp 62) (.tmp 64)⟩]) (.cond (.tmp 65) (.skip) (.exit 6))) (.seq (.block 7 (.seq (.dreg 11 [
    ⟨some 68, none, .mov (.tmp 0)⟩,
    ⟨some 69, none, .nilCheck (.tmp 68)⟩,
    ⟨some 70, none, .faddr 4 (.tmp 69)⟩,
    ⟨some 71, none, .load true 1 (.tmp 70)⟩,
    ⟨some 72, none, .mov (.tmp 4)⟩,
    ⟨some 73, none, .mov (.tmp 10)⟩,
    ⟨some 74, none, .iaddr 1 (.tmp 72) (.tmp 73)⟩,
    ⟨some 75, none, .load true 1 (.tmp 74)⟩,
    ⟨some 76, none, .iaddr 8 (.tmp 71) (.tmp 75)⟩,
    ⟨some 77, none, .load false 8 (.tmp 76)⟩,
    ⟨some 11, none, .alloc true [.int .i64 0, .int .i64 0, .int .i64 0, .int .i64 0, .int .i64 0, .int .i64 0, .int .i64 0, .slice none 0 0]⟩,
    ⟨none, none, .store 8 (.tmp 11) (.tmp 77)⟩]) (.seq (.reg [
    ⟨some 78, none, .faddr 7 (.tmp 11)⟩,
    ⟨some 79, none, .load true 1 (.tmp 78)⟩,
    ⟨some 80, none, .lenS (.tmp 79)⟩,
    ⟨some 81, none, .mov (.const (.int .i64 0))⟩]) (.block 8 (.loop (.seq (.reg [
    ⟨some 82, none, .bin .lss (.tmp 81) (.tmp 80)⟩]) (.seq (.cond (.tmp 82) (.skip) (.exit 8)) (.seq (.block 9 (.seq (.reg [
    ⟨some 83, none, .iaddr 6 (.tmp 79) (.tmp 81)⟩,
    ⟨some 84, none, .load false 6 (.tmp 83)⟩,
    ⟨some 13, none, .alloc true [.int .i64 0, .int .i64 0, .int .i64 0, .int .i64 0, .int .i64 0, .int .i64 0]⟩,
    ⟨none, none, .store 6 (.tmp 13) (.tmp 84)⟩]) (.seq (.seq (.reg [
    ⟨some 85, none, .faddr 2 (.tmp 11)⟩,
    ⟨some 86, none, .load true 1 (.tmp 85)⟩,
    ⟨some 87, none, .bin .and (.tmp 86) (.const (.int .i64 1))⟩,
    ⟨some 88, none, .bin .eql (.tmp 87) (.const (.int .i64 0))⟩]) (.cond (.tmp 88) (.reg [
    ⟨some 89, none, .mov (.tmp 0)⟩,
    ⟨some 90, none, .mov (.tmp 3)⟩,
    ⟨some 91, none, .mov (.tmp 4)⟩,
    ⟨some 92, none, .faddr 0 (.tmp 13)⟩,
    ⟨some 93, none, .load false 3 (.tmp 92)⟩,
    ⟨some 94, none, .call 151 [.tmp 89, .tmp 90, .tmp 91, .tmp 93]⟩,
    ⟨some 4, none, .mov (.tmp 94)⟩]) (.skip))) (.seq (.reg [
    ⟨some 95, none, .mov (.tmp 0)⟩,
    ⟨some 96, none, .faddr 0 (.tmp 13)⟩,
    ⟨some 97, none, .load false 3 (.tmp 96)⟩,
    ⟨some 98, none, .call 104 [.tmp 95, .tmp 97]⟩,
    ⟨some 14, none, .alloc true [.int .i64 0, .int .i64 0, .int .i64 0]⟩,
    ⟨none, none, .store 3 (.tmp 14) (.tmp 98)⟩]) (.seq (.reg [
    ⟨some 99, none, .faddr 2 (.tmp 11)⟩,
    ⟨some 100, none, .load true 1 (.tmp 99)⟩,
    ⟨some 101, none, .bin .and (.tmp 100) (.const (.int .i64 2))⟩,
    ⟨some 102, none, .bin .eql (.tmp 101) (.const (.int .i64 0))⟩,
    ⟨some 103, none, .mov (.tmp 102)⟩,
    ⟨some 104, some (103, true), .faddr 0 (.tmp 14)⟩,
    ⟨some 105, some (103, true), .load true 1 (.tmp 104)⟩,
    ⟨some 106, some (103, true), .bin .neq (.tmp 105) (.const (.int .i64 2))⟩,
    ⟨some 107, some (103, true), .mov (.tmp 106)⟩,
    ⟨some 108, some (107, false), .mov (.tmp 3)⟩,
    ⟨some 109, some (107, false), .faddr 2 (.tmp 14)⟩,
    ⟨some 110, some (107, false), .load true 1 (.tmp 109)⟩,
    ⟨some 111, some (107, false), .iaddr 1 (.tmp 108) (.tmp 110)⟩,
    ⟨some 112, some (107, false), .load true 1 (.tmp 111)⟩,
    ⟨some 113, some (103, true), .pick (.tmp 107) (.const (.bool true)) (.tmp 112)⟩,
    ⟨some 114, none, .pick (.tmp 103) (.tmp 113) (.const (.bool false))⟩]) (.cond (.tmp 114) (.reg [
    ⟨some 115, none, .mov (.tmp 0)⟩,
    ⟨some 116, none, .mov (.tmp 3)⟩,
    ⟨some 117, none, .mov (.tmp 4)⟩,
    ⟨some 118, none, .faddr 3 (.tmp 13)⟩,
    ⟨some 119, none, .load false 3 (.tmp 118)⟩,
    ⟨some 120, none, .call 151 [.tmp 115, .tmp 116, .tmp 117, .tmp 119]⟩,
    ⟨some 4, none, .mov (.tmp 120)⟩]) (.skip))))))) (.reg [
    ⟨some 121, none, .bin .add (.tmp 81) (.const (.int .i64 1))⟩,
    ⟨some 81, none, .mov (.tmp 121)⟩]))))))))) (.reg [
    ⟨some 66, none, .mov (.tmp 10)⟩,
    ⟨some 67, none, .bin .add (.tmp 66) (.const (.int .i64 1))⟩,
    ⟨some 10, none, .mov (.tmp 67)⟩]))))))))))) (.seq (.reg [
    ⟨some 122, none, .mov (.tmp 3)⟩,
    ⟨some 2, none, .mov (.tmp 122)⟩]) (.ret))))))))
theorem t114 : Try.f114.body.bind (trC e114) = some c114 := by kernel_rfl
theorem r114 : Try.f114.results.toList.mapM (trR Try.prog) = some [.tmp 2] := by kernel_rfl
theorem fn114 {args : List Value} {M : Mem} {post : Value → Mem → Prop} (hl : args.length ≤ 123) (h : VC e114 c114 (fnQ [.tmp 2] post) (initS args 123) M) : Fn Try.prog 114 args M post :=
  Fn.of' (E := e114) Try.func114 t114 rfl r114 mixed hl h
/-! spec.Holds -/
noncomputable def e49 : Env := ⟨Try.prog, [], 7, []⟩
noncomputable def c49 : C :=
  .seq (.reg [
    ⟨some 1, none, .box false (.tmp 0)⟩,
    ⟨some 2, none, .mov (.const (.slice none 0 0))⟩]) (.seq (.seq (.reg [
    ⟨some 3, none, .load false 13 (.tmp 1)⟩,
    ⟨some 4, none, .call 31 [.tmp 3]⟩,
    ⟨some 5, none, .bin .neq (.tmp 4) (.const (.int .i64 0))⟩]) (.cond (.tmp 5) (.seq (.reg [
    ⟨some 2, none, .mov (.const (.slice none 0 0))⟩]) (.ret)) (.skip))) (.seq (.reg [
    ⟨some 6, none, .call 114 [.tmp 1]⟩,
    ⟨some 2, none, .mov (.tmp 6)⟩]) (.ret)))
theorem t49 : Try.f49.body.bind (trC e49) = some c49 := by kernel_rfl
theorem r49 : Try.f49.results.toList.mapM (trR Try.prog) = some [.tmp 2] := by kernel_rfl
theorem fn49 {args : List Value} {M : Mem} {post : Value → Mem → Prop} (hl : args.length ≤ 7) (h : VC e49 c49 (fnQ [.tmp 2] post) (initS args 7) M) : Fn Try.prog 49 args M post :=
  Fn.of' (E := e49) Try.func49 t49 rfl r49 mixed hl h
/-! spec.Counted -/
noncomputable def e42 : Env := ⟨Try.prog, [], 8, []⟩
noncomputable def c42 : C :=
  .seq (.reg [
    ⟨some 1, none, .box false (.tmp 0)⟩,
    ⟨some 2, none, .mov (.const (.int .i64 0))⟩]) (.seq (.seq (.reg [
    ⟨some 3, none, .load false 13 (.tmp 1)⟩,
    ⟨some 4, none, .call 31 [.tmp 3]⟩,
    ⟨some 5, none, .bin .neq (.tmp 4) (.const (.int .i64 0))⟩]) (.cond (.tmp 5) (.seq (.reg [
    ⟨some 2, none, .mov (.const (.int .i64 0))⟩]) (.ret)) (.skip))) (.seq (.reg [
    ⟨some 6, none, .call 114 [.tmp 1]⟩,
    ⟨some 7, none, .call 113 [.tmp 1, .tmp 6]⟩,
    ⟨some 2, none, .mov (.tmp 7)⟩]) (.ret)))
theorem t42 : Try.f42.body.bind (trC e42) = some c42 := by kernel_rfl
theorem r42 : Try.f42.results.toList.mapM (trR Try.prog) = some [.tmp 2] := by kernel_rfl
theorem fn42 {args : List Value} {M : Mem} {post : Value → Mem → Prop} (hl : args.length ≤ 8) (h : VC e42 c42 (fnQ [.tmp 2] post) (initS args 8) M) : Fn Try.prog 42 args M post :=
  Fn.of' (E := e42) Try.func42 t42 rfl r42 mixed hl h
end Go.Proofs.Ytcmllambknfleaa.E
/- What is held, in plain words. Conditions: none. -/
set_option linter.unusedVariables false
set_option linter.unusedSimpArgs false
namespace Go.Proofs.Ytcmllambknfleaa.E
open Go
open Classical
/-- whether a cell holds its pairs' keys, their values -/
def KeyW (c : Cell) : Prop := IntKind.i64.wrap (BitVec.ofInt IntKind.i64.bits c.weak &&& BitVec.ofInt IntKind.i64.bits 1).toNat = 0
def ValW (c : Cell) : Prop := IntKind.i64.wrap (BitVec.ofInt IntKind.i64.bits c.weak &&& BitVec.ofInt IntKind.i64.bits 2).toNat = 0
inductive Held (H : Heap) : Nat → Prop
  | reg {w : Word} {j : Nat} : w ∈ H.regs → H.tgt w = some j → Held H j
  | due {i : Nat} {c : Cell} : H.cells[i]? = some c → c.last = 2 → Held H i
  | key {i j : Nat} {c : Cell} {p : Pair} : Held H i → H.cells[i]? = some c → p ∈ c.pairs → KeyW c → H.tgt p.key = some j → Held H j
  | val {i j : Nat} {c : Cell} {p : Pair} : Held H i → H.cells[i]? = some c → p ∈ c.pairs → ValW c → (∀ k, H.tgt p.key = some k → Held H k) → H.tgt p.val = some j → Held H j
noncomputable def heldL (H : Heap) : List Bool := (List.range H.cells.length).map fun i => decide (Held H i)
structure HFull (H : Heap) (seen : List Bool) : Prop where
  regs : ∀ w, w ∈ H.regs → Hit H seen w
  dues : ∀ (i : Nat) c, H.cells[i]? = some c → c.last = 2 → seen[i]? = some true
def RuleC (H : Heap) (seen : List Bool) (c : Cell) : Prop := ∀ p, p ∈ c.pairs → (KeyW c → Hit H seen p.key) ∧ (ValW c → Hit H seen p.key → Hit H seen p.val)
theorem held_end {H : Heap} {s : List Bool × List Int} (h : Mk H (Held H) s) (hf : HFull H s.1) (hc : ∀ (i : Nat) c, s.1[i]? = some true → H.cells[i]? = some c → RuleC H s.1 c) : s.1 = heldL H := by
  have key : ∀ j, Held H j → s.1[j]? = some true := by
    intro j hj
    induction hj with
    | reg h1 h2 => exact hf.regs _ h1 _ h2
    | due h1 h2 => exact hf.dues _ _ h1 h2
    | key _ h2 h3 h4 h5 ih => exact (hc _ _ ih h2 _ h3).1 h4 _ h5
    | val _ h2 h3 h4 _ h6 ih ih2 => exact (hc _ _ ih h2 _ h3).2 h4 ih2 _ h6
  unfold heldL
  apply List.ext_getElem?
  intro i
  by_cases hi : i < H.cells.length
  · rw [List.getElem?_map, List.getElem?_range hi]
    simp only [Option.map_some]
    have hl : i < s.1.length := by rw [h.len]; exact hi
    rw [List.getElem?_eq_getElem hl]
    congr 1
    cases hb : s.1[i] with
    | true =>
      have : Held H i := h.snd i (by rw [List.getElem?_eq_getElem hl, hb])
      simp [this]
    | false =>
      have : ¬ Held H i := fun hr => by
        have := key i hr
        rw [List.getElem?_eq_getElem hl, hb] at this
        cases this
      simp [this]
  · rw [List.getElem?_eq_none (by rw [h.len]; omega), List.getElem?_eq_none (by simp; omega)]
theorem heldL_len (H : Heap) : (heldL H).length = H.cells.length := by simp [heldL]
theorem heldL_at {H : Heap} {i : Nat} (h : (heldL H)[i]? = some true) : Held H i := by
  unfold heldL at h
  rw [List.getElem?_map] at h
  by_cases hi : i < H.cells.length
  · rw [List.getElem?_range hi] at h
    simpa using h
  · rw [List.getElem?_eq_none (by simp; omega)] at h
    cases h
/-- a word marked: nothing, or one more to go through -/
def Same (s t : List Bool × List Int) : Prop := t = s ∨ s.2.length < t.2.length
theorem mkW_same (H : Heap) (s : List Bool × List Int) (w : Word) : Same s (mkW H s w) := by
  unfold mkW
  split
  · split
    · right; simp
    · exact .inl rfl
  · exact .inl rfl
theorem Same.trans {s t u : List Bool × List Int} (h : Same s t) (k : Same t u) (g : t.2.length ≤ u.2.length) (g2 : s.2.length ≤ t.2.length) : Same s u := by
  rcases h with rfl | h
  · exact k
  · right; omega
theorem Grow.len {s t : List Bool × List Int} (h : Grow s t) : s.2.length ≤ t.2.length := by
  obtain ⟨e, he⟩ := h.pre
  rw [← he]; simp
/-- cells that are held are in use -/
theorem held_ok {H : Heap} (h2 : R2 H) (h4 : R4 H) {j : Nat} (h : Held H j) : ∃ c, H.cells[j]? = some c ∧ c.state = 1 ∧ ¬ Doomed H j := by
  induction h with
  | reg hw ht => exact lead_ok h2 (h4.regs _ hw).1 (h4.regs _ hw).2 ht
  | due hc hl =>
    have hs := last2 h2 hc hl
    exact ⟨_, hc, hs, fun hd => h4.roots _ _ hc hd ⟨hs, .inr hl⟩⟩
  | @key i j c p _ hc hp _ ht ih =>
    obtain ⟨c', hc', hs, hd⟩ := ih
    obtain ⟨k, hk⟩ := List.getElem?_of_mem hp
    have hpr := h4.pairs _ _ hc k p hk
    exact lead_ok h2 hpr.1 (hpr.2.2 hd).1 ht
  | @val i j c p _ hc hp _ _ ht ih _ =>
    obtain ⟨c', hc', hs, hd⟩ := ih
    obtain ⟨k, hk⟩ := List.getElem?_of_mem hp
    have hpr := h4.pairs _ _ hc k p hk
    exact lead_ok h2 hpr.2.1 (hpr.2.2 hd).2 ht
end Go.Proofs.Ytcmllambknfleaa.E
/- What is held, the reference's. Conditions: none. -/
set_option linter.unusedVariables false
set_option linter.unusedSimpArgs false
set_option maxHeartbeats 8000000
set_option maxRecDepth 100000
namespace Go.Proofs.Ytcmllambknfleaa.E
open Go
open Classical
/-- all of the cells before a place of the queue are as the rules say, if nothing was newly seen -/
def Calm (H : Heap) (s0 s : List Bool × List Int) (n : Nat) : Prop := s = s0 → ∀ (k j : Nat) c, k < n → s0.2[k]? = some (j : Int) → H.cells[j]? = some c → RuleC H s0.1 c
noncomputable def keyS (H : Heap) (c : Cell) (p : Pair) (q : List Bool × List Int) : List Bool × List Int := if KeyW c then mkW H q p.key else q
noncomputable def valS (H : Heap) (c : Cell) (p : Pair) (q : List Bool × List Int) : List Bool × List Int := if ValW c ∧ Hit H q.1 p.key then mkW H q p.val else q
theorem keyS_ok {H : Heap} {c : Cell} {p : Pair} {q : List Bool × List Int} (h : Mk H (Held H) q) (hk : KeyW c → ∀ j, H.tgt p.key = some j → j < H.cells.length ∧ Held H j) : Mk H (Held H) (keyS H c p q) ∧ Grow q (keyS H c p q) ∧ Same q (keyS H c p q) ∧ (KeyW c → Hit H (keyS H c p q).1 p.key) := by
  unfold keyS
  by_cases hK : KeyW c
  · rw [if_pos hK]
    obtain ⟨a, b, d⟩ := mkW_ok h (hk hK)
    exact ⟨a, b, mkW_same _ _ _, fun _ => d⟩
  · rw [if_neg hK]
    exact ⟨h, Grow.refl _, .inl rfl, fun h => absurd h hK⟩
theorem valS_ok {H : Heap} {c : Cell} {p : Pair} {q : List Bool × List Int} (h : Mk H (Held H) q) (hk : ValW c → Hit H q.1 p.key → ∀ j, H.tgt p.val = some j → j < H.cells.length ∧ Held H j) : Mk H (Held H) (valS H c p q) ∧ Grow q (valS H c p q) ∧ Same q (valS H c p q) ∧ (ValW c → Hit H q.1 p.key → Hit H (valS H c p q).1 p.val) := by
  unfold valS
  by_cases hK : ValW c ∧ Hit H q.1 p.key
  · rw [if_pos hK]
    obtain ⟨a, b, d⟩ := mkW_ok h (hk hK.1 hK.2)
    exact ⟨a, b, mkW_same _ _ _, fun _ _ => d⟩
  · rw [if_neg hK]
    exact ⟨h, Grow.refl _, .inl rfl, fun h h' => absurd ⟨h, h'⟩ hK⟩
theorem holds_next {H : Heap} {s q : List Bool × List Int} {c : Cell} {k : Nat} {p : Pair} (gp : c.pairs[k]? = some p) (hv1 : Mk H (Held H) q) (hv2 : Grow s q) (hv3 : Same s q)
    (hv4 : q = s → ∀ p, p ∈ c.pairs.take k → (KeyW c → Hit H s.1 p.key) ∧ (ValW c → Hit H s.1 p.key → Hit H s.1 p.val))
    (hk : KeyW c → ∀ j, H.tgt p.key = some j → j < H.cells.length ∧ Held H j) (hw : ValW c → Hit H (keyS H c p q).1 p.key → ∀ j, H.tgt p.val = some j → j < H.cells.length ∧ Held H j) :
    Mk H (Held H) (valS H c p (keyS H c p q)) ∧ Grow s (valS H c p (keyS H c p q)) ∧ Same s (valS H c p (keyS H c p q)) ∧
    (valS H c p (keyS H c p q) = s → ∀ p', p' ∈ c.pairs.take (k + 1) → (KeyW c → Hit H s.1 p'.key) ∧ (ValW c → Hit H s.1 p'.key → Hit H s.1 p'.val)) := by
  obtain ⟨a1, a2, a3, a4⟩ := keyS_ok hv1 hk
  obtain ⟨b1, b2, b3, b4⟩ := valS_ok a1 hw
  refine ⟨b1, (hv2.trans a2).trans b2, (hv3.trans a3 a2.len hv2.len).trans b3 b2.len (hv2.trans a2).len, fun e p' hp' => ?_⟩
  have l1 := hv2.len
  have l2 := a2.len
  have l3 := b2.len
  have el : (valS H c p (keyS H c p q)).2.length = s.2.length := by rw [e]
  have e1 : q = s := by
    rcases hv3 with h | h
    · exact h
    · omega
  have e2 : keyS H c p q = s := by
    rcases a3 with h | h
    · rw [h]; exact e1
    · omega
  rw [List.take_add_one, List.mem_append] at hp'
  rcases hp' with hp' | hp'
  · exact hv4 e1 p' hp'
  · rw [gp] at hp'
    simp only [Option.toList_some, List.mem_singleton] at hp'
    subst hp'
    rw [e2] at a4 b4
    have e3 : valS H c p' s = s := by rw [← e2]; rw [e]; exact e2.symm
    rw [e3] at b4
    exact ⟨a4, b4⟩
theorem l2holds_a {m : Mem} {a : Nat} {x : HX} (h : Has m (hp a x)) (h1 : R1 x.H) (h2 : R2 x.H) (h4 : R4 x.H) : FnA Try.prog 114 [ptr a] [ro m] (fun v As => ∃ (sd : D), v = .slice sd.a (heldL x.H).length sd.cap ∧ As = [slA 1 bv sd (heldL x.H), ro m]) := by
  have hb0 := h.lens
  have hl := x.len
  have hc1 := h1.cells
  have hc2 := h1.room
  refine fnA_of (fun h => fn114 (by simp) h) ?_
  repeat' (first
    | (refine k_L ?_; first | refine a_p rfl ?_ | (refine k_l ?_; refine g_l rfl ?_) | (refine a_mk (f := bv) (n := (x.xs.length : Int)) (k := (x.xs.length : Int)) false (fun _ => rfl) rfl rfl rfl (by omega) (by omega) (fun sd hsd => ?_)))
    | refine a_n ?_
    | (refine k_V ?_; first | refine v_seq ?_ | refine v_reg ?_)
    | refine s_n ?_)
  have hm0 := mk0 x.H (Held x.H)
  rw [hl] at hm0
  refine VA.ent (ent_new (f := iv) (size := 1)) ?_
  have hreg : ∀ w, w ∈ x.H.regs → ∀ j, x.H.tgt w = some j → j < x.H.cells.length ∧ Held x.H j := fun w hw j hj => ⟨(tgt_lt h2 (h4.regs w hw).1 hj).1, .reg hw hj⟩
  refine g_range x.regs.length (fun q : PQ => [(0, .v (ptr a)), (3, .v (.slice sd.a x.xs.length sd.cap)), (4, .v (.slice q.2.a q.1.2.length q.2.cap)), (24, .v (.slice x.rd.a x.regs.length x.rd.cap))]) (fun q => sqA sd q.2 q.1 ++ [ro m])
    (fun i q => MkA x.H (Held x.H) q.1 ∧ ∀ w, w ∈ x.H.regs.take i → Hit x.H q.1.1 w) (((List.replicate x.xs.length false, []), ⟨none, 0⟩) : PQ) ⟨hm0, by simp⟩ (fun i q hi hv => ?_) (fun q hv => ?_) (hent := Pm.ent (by (fail_if_success apply pm_bad); (repeat (first | exact pm_nil | (apply pm_cons; repeat (first | exact pk_h | apply pk_t)))); fail_if_success focus skip))
  · obtain ⟨w, gw⟩ : ∃ w, x.regs[i]? = some w := ⟨_, List.getElem?_eq_getElem hi⟩
    have hwm : w ∈ x.H.regs := List.mem_of_getElem? gw
    obtain ⟨n1, n2, n3⟩ := hv.1.next (hreg w hwm)
    repeat' (first
      | (refine k_L ?_; first | refine a_p rfl ?_ | (refine k_i ?_; refine g_i rfl rfl ?_) | (refine k_ls ?_; refine g_ls rfl ?_) | (refine k_st ?_; refine g_sw rfl rfl rfl rfl (Nat.le_of_ble_eq_true rfl) ?_) | (refine k_al ?_; refine a_al ?_))
      | refine a_n ?_
      | (refine k_V ?_; first | refine v_seq ?_ | refine v_reg ?_)
      | refine sk_zero ?_
      | refine sk_succ ?_
      | refine wk_nil ?_
      | refine wk_cons ?_)
    refine g_c rfl (l2mark_n (sd := sd) (kd := q.2) (w := w) (s := q.1) (S := Held x.H) h h1 h2 (h4.regs w hwm).1 hv.1.ok (hv.1.ok.len.trans hl)) (fun v As' hq => ?_)
    obtain ⟨kd', rfl, rfl⟩ := hq
    repeat' (first
      | (refine k_L ?_; refine a_p rfl ?_)
      | refine a_n ?_)
    refine r_nx ((mkW x.H q.1 w, kd') : PQ) ⟨n1, fun w' hw' => ?_⟩ (he := Pm.ent (by (fail_if_success apply pm_bad); (repeat (first | exact pm_nil | (apply pm_cons; repeat (first | exact pk_h | apply pk_t)))); fail_if_success focus skip))
    rw [List.take_add_one, List.mem_append] at hw'
    rcases hw' with hw' | hw'
    · exact (hv.2 w' hw').grow n2
    · rw [show x.H.regs[i]? = some w from gw] at hw'
      simp only [Option.toList_some, List.mem_singleton] at hw'
      subst hw'; exact n3
  · obtain ⟨hv1, hv2⟩ := hv
    rw [List.take_of_length_le (by exact Nat.le_refl _)] at hv2
    repeat' (first
      | (refine k_L ?_; first | refine a_p rfl ?_ | (refine k_l ?_; refine g_l rfl ?_))
      | refine a_n ?_
      | (refine k_V ?_; first | refine v_seq ?_ | refine v_reg ?_)
      | refine s_n ?_)
    refine g_range x.xs.length (fun q : PQ => [(0, .v (ptr a)), (3, .v (.slice sd.a x.xs.length sd.cap)), (4, .v (.slice q.2.a q.1.2.length q.2.cap)), (39, .v (.slice x.cd.a x.xs.length x.cd.cap))]) (fun q => sqA sd q.2 q.1 ++ [ro m])
      (fun i q => MkA x.H (Held x.H) q.1 ∧ (∀ w, w ∈ x.H.regs → Hit x.H q.1.1 w) ∧ ∀ (j : Nat) c, j < i → x.H.cells[j]? = some c → c.last = 2 → q.1.1[j]? = some true) q ⟨hv1, hv2, fun j c hj => by omega⟩ (fun i q hi hv => ?_) (fun q hv => ?_) (hent := Pm.ent (by (fail_if_success apply pm_bad); (repeat (first | exact pm_nil | (apply pm_cons; repeat (first | exact pk_h | apply pk_t)))); fail_if_success focus skip))
    · obtain ⟨hv1, hv2, hv3⟩ := hv
      obtain ⟨y, gy, gc⟩ := HX.at hi
      by_cases hr : y.c.last = 2
      · have hst := last2 h2 gc hr
        obtain ⟨n1, n2, n3⟩ := hv1.next (w := ⟨2, 0, i⟩) (fun j hj => by
          rw [tgt_root gc hst] at hj
          cases hj
          exact ⟨by omega, .due gc hr⟩)
        repeat' (first
          | (refine k_L ?_; first | refine a_p rfl ?_ | (refine k_i ?_; refine g_i rfl rfl ?_) | (refine k_ls ?_; refine g_ls rfl ?_) | (refine k_st ?_; refine g_sw rfl rfl rfl rfl (Nat.le_of_ble_eq_true rfl) ?_) | (refine k_al ?_; refine a_al ?_))
          | refine a_n ?_
          | (refine k_V ?_; first | refine v_seq ?_ | refine v_reg ?_ | (refine v_cd rfl (fun hb => ?_) (fun hb => ?_) <;> try (exfalso; omega)))
          | refine sk_zero ?_
          | refine sk_succ ?_
          | refine wk_nil ?_
          | refine wk_cons ?_)
        · refine g_c rfl (l2mark_n (sd := sd) (kd := q.2) (w := ⟨2, 0, i⟩) (s := q.1) (S := Held x.H) h h1 h2 (formed_at (by omega)) hv1.ok (hv1.ok.len.trans hl)) (fun v As' hq => ?_)
          obtain ⟨kd', rfl, rfl⟩ := hq
          repeat' (first
            | (refine k_L ?_; refine a_p rfl ?_)
            | refine a_n ?_)
          refine r_nx ((mkW x.H q.1 ⟨2, 0, i⟩, kd') : PQ) ⟨n1, fun w' hw' => (hv2 w' hw').grow n2, fun j c hj hc hl2 => ?_⟩ (he := Pm.ent (by (fail_if_success apply pm_bad); (repeat (first | exact pm_nil | (apply pm_cons; repeat (first | exact pk_h | apply pk_t)))); fail_if_success focus skip))
          by_cases e : j = i
          · subst e
            exact n3 j (tgt_root gc hst)
          · exact n2.mono j (hv3 j c (by omega) hc hl2)
      · repeat' (first
          | (refine k_L ?_; first | refine a_p rfl ?_ | (refine k_i ?_; refine g_i rfl rfl ?_) | (refine k_ls ?_; refine g_ls rfl ?_) | (refine k_st ?_; refine g_sw rfl rfl rfl rfl (Nat.le_of_ble_eq_true rfl) ?_) | (refine k_al ?_; refine a_al ?_))
          | refine a_n ?_
          | (refine k_V ?_; first | refine v_seq ?_ | refine v_reg ?_ | refine v_skip ?_ | (refine v_cd rfl (fun hb => ?_) (fun hb => ?_) <;> try (exfalso; omega)))
          | refine sk_zero ?_
          | refine sk_succ ?_
          | refine wk_nil ?_
          | refine wk_cons ?_)
        refine r_nx q ⟨hv1, hv2, fun j c hj hc hl2 => ?_⟩ (he := Pm.ent (by (fail_if_success apply pm_bad); (repeat (first | exact pm_nil | (apply pm_cons; repeat (first | exact pk_h | apply pk_t)))); fail_if_success focus skip))
        by_cases e : j = i
        · subst e; rw [gc] at hc; cases hc; exact absurd hl2 hr
        · exact hv3 j c (by omega) hc hl2
    · obtain ⟨hv1, hv2, hv3⟩ := hv
      have hfull : HFull x.H q.1.1 := ⟨hv2, fun i c hc hr => hv3 i c (by have := (List.getElem?_eq_some_iff.1 hc).1; omega) hc hr⟩
      have hall := hv1.all
      have hok := hv1.ok
      clear hv1 hv2 hv3
      repeat' (first
        | (refine k_L ?_; refine a_p rfl ?_)
        | refine a_n ?_
        | (refine k_V ?_; first | refine v_seq ?_ | refine v_reg ?_))
      refine v_blk ?_
      refine v_loop (fun q : PQ × Int => [(0, .v (ptr a)), (3, .v (.slice sd.a x.xs.length sd.cap)), (4, .v (.slice q.1.2.a q.1.1.2.length q.1.2.cap)), (9, .v (.int .i64 q.2))]) (fun q => sqA sd q.1.2 q.1.1 ++ [ro m])
        (fun k q => k = 2 * (x.xs.length - q.1.1.2.length) + (if q.2 = q.1.1.2.length then 0 else 1) ∧ MkA x.H (Held x.H) q.1.1 ∧ HFull x.H q.1.1.1 ∧ (q.2 = q.1.1.2.length → ∀ (i : Nat) c, q.1.1.1[i]? = some true → x.H.cells[i]? = some c → RuleC x.H q.1.1.1 c))
        ⟨_, (q, -1), ⟨rfl, rfl, rfl, rfl, trivial⟩, Pm.ent (by (fail_if_success apply pm_bad); (repeat (first | exact pm_nil | (apply pm_cons; repeat (first | exact pk_h | apply pk_t)))); fail_if_success focus skip), rfl, ⟨hok, hall⟩, hfull, fun e => by dsimp only at e; omega⟩ ?_
      clear hok hfull hall
      rintro k ⟨⟨s0, kd0⟩, bf⟩ ⟨rfl, hma, hfull, hend⟩
      dsimp only at hma hfull hend ⊢
      have hcnt0 := hma.ok.cnt
      by_cases hbf : bf = (s0.2.length : Int)
      · have e := held_end hma.ok hfull (hend hbf)
        repeat' (first
          | (refine k_L ?_; refine a_p rfl ?_)
          | refine a_n ?_
          | (refine k_V ?_; first | refine v_seq ?_ | refine v_reg ?_ | refine v_ret ?_ | refine v_exit ?_ | (refine v_cn rfl (fun hb => ?_) (fun hb => ?_) <;> try (exfalso; omega))))
        exact fa_r (As' := [slA 1 bv sd (heldL x.H), ro m]) (fun _ _ => rfl) (by rw [← e]; exact Pm.ent (by (fail_if_success apply pm_bad); (repeat (first | exact pm_nil | (apply pm_cons; repeat (first | exact pk_h | apply pk_t)))); fail_if_success focus skip)) ⟨sd, by rw [heldL_len, hl], rfl⟩
      · repeat' (first
          | (refine k_L ?_; refine a_p rfl ?_)
          | refine a_n ?_
          | (refine k_V ?_; first | refine v_seq ?_ | refine v_reg ?_ | refine v_bs ?_ | refine v_skip ?_ | (refine v_cn rfl (fun hb => ?_) (fun hb => ?_) <;> try (exfalso; omega)))
          | refine s_n ?_)
        refine v_blk ?_
        refine v_loop (fun q : PQ × Nat => [(0, .v (ptr a)), (3, .v (.slice sd.a x.xs.length sd.cap)), (4, .v (.slice q.1.2.a q.1.1.2.length q.1.2.cap)), (9, .v (.int .i64 s0.2.length)), (10, .v (.int .i64 q.2))]) (fun q => sqA sd q.1.2 q.1.1 ++ [ro m])
          (fun k q => k = 2 * q.1.1.1.count false + q.1.1.2.length - q.2 ∧ q.2 ≤ q.1.1.2.length ∧ Mk x.H (Held x.H) q.1.1 ∧ Grow s0 q.1.1 ∧ Same s0 q.1.1 ∧ Calm x.H s0 q.1.1 q.2)
          ⟨_, ((s0, kd0), 0), ⟨rfl, rfl, rfl, rfl, rfl, trivial⟩, Pm.ent (by (fail_if_success apply pm_bad); (repeat (first | exact pm_nil | (apply pm_cons; repeat (first | exact pk_h | apply pk_t)))); fail_if_success focus skip), rfl, Nat.zero_le _, hma.ok, Grow.refl _, .inl rfl, fun _ k j c hk => by dsimp only at hk; omega⟩ ?_
        rintro k ⟨⟨s, kd⟩, hd⟩ ⟨rfl, hle, hok, hgr, hsm, hcalm⟩
        dsimp only at hle hok hgr hsm hcalm ⊢
        have hcnt := hok.cnt
        have hgl := hgr.len
        by_cases hlt : hd < s.2.length
        · obtain ⟨g, gg⟩ : ∃ g, s.2[hd]? = some g := ⟨_, List.getElem?_eq_getElem hlt⟩
          obtain ⟨j, rfl, hj⟩ := hok.stk g (List.mem_of_getElem? gg)
          have hjl : j < x.xs.length := by
            have := (List.getElem?_eq_some_iff.1 hj).1
            have := hok.len
            omega
          obtain ⟨y, gy, gc⟩ := HX.at hjl
          have hpl := h2.pl (List.mem_of_getElem? gc)
          have hpr := h4.pairs j y.c gc
          have hHj := hok.snd j hj
          repeat' (first
            | (refine k_L ?_; first | refine a_p rfl ?_ | (refine k_l ?_; refine g_l rfl ?_) | (refine k_i ?_; refine g_i rfl rfl ?_) | (refine k_ls ?_; refine g_ls rfl ?_) | (refine k_st ?_; refine g_sw rfl rfl rfl rfl (Nat.le_of_ble_eq_true rfl) ?_) | (refine k_al ?_; refine a_al ?_))
            | refine a_n ?_
            | (refine k_V ?_; first | refine v_seq ?_ | refine v_reg ?_ | refine v_dreg ?_ | refine v_bs ?_ | refine v_skip ?_ | (refine v_cd rfl (fun hb => ?_) (fun hb => ?_) <;> try (exfalso; omega)))
            | refine s_n ?_
            | refine sk_zero ?_
            | refine sk_succ ?_
            | refine wk_nil ?_
            | refine wk_cons ?_)
          refine g_range y.c.pairs.length (fun q : PQ => [(0, .v (ptr a)), (3, .v (.slice sd.a x.xs.length sd.cap)), (4, .v (.slice q.2.a q.1.2.length q.2.cap)), (9, .v (.int .i64 s0.2.length)), (10, .v (.int .i64 hd)), (11, .box (csw y)), (79, .v (.slice y.d.a y.c.pairs.length y.d.cap))]) (fun q => sqA sd q.2 q.1 ++ [ro m])
            (fun k q => Mk x.H (Held x.H) q.1 ∧ Grow s q.1 ∧ Same s q.1 ∧ (q.1 = s → ∀ p, p ∈ y.c.pairs.take k → (KeyW y.c → Hit x.H s.1 p.key) ∧ (ValW y.c → Hit x.H s.1 p.key → Hit x.H s.1 p.val))) ((s, kd) : PQ) ⟨hok, Grow.refl _, .inl rfl, fun _ => by simp⟩ (fun k q hk hv => ?_) (fun q hv => ?_) (hent := Pm.ent (by (fail_if_success apply pm_bad); (repeat (first | exact pm_nil | (apply pm_cons; repeat (first | exact pk_h | apply pk_t)))); fail_if_success focus skip))
          · obtain ⟨p, gp⟩ : ∃ p, y.c.pairs[k]? = some p := ⟨_, List.getElem?_eq_getElem hk⟩
            have hpm := List.mem_of_getElem? gp
            obtain ⟨hv1, hv2, hv3, hv4⟩ := hv
            obtain ⟨k1, v1, _⟩ := hpr k p gp
            have ck : KeyW y.c → ∀ j, x.H.tgt p.key = some j → j < x.H.cells.length ∧ Held x.H j := fun hK j' hj' => ⟨(tgt_lt h2 k1 hj').1, .key hHj gc hpm hK hj'⟩
            have cv : ValW y.c → Hit x.H (keyS x.H y.c p q.1).1 p.key → ∀ j, x.H.tgt p.val = some j → j < x.H.cells.length ∧ Held x.H j := fun hV hH j' hj' =>
              ⟨(tgt_lt h2 v1 hj').1, .val hHj gc hpm hV (fun i hi => (keyS_ok hv1 ck).1.snd i (hH i hi)) hj'⟩
            obtain ⟨n1, n2, n3, n4⟩ := holds_next gp hv1 hv2 hv3 hv4 ck cv
            obtain ⟨a1, a2, _, _⟩ := keyS_ok (q := q.1) hv1 ck
            refine v_seq ?_
            repeat' (first
              | (refine k_L ?_; first | (refine k_i ?_; refine g_i rfl rfl ?_) | (refine k_ls ?_; refine g_ls rfl ?_) | (refine k_st ?_; refine g_sw rfl rfl rfl rfl (Nat.le_of_ble_eq_true rfl) ?_) | (refine k_al ?_; refine a_al ?_))
              | refine a_n ?_
              | (refine k_V ?_; refine v_reg ?_)
              | refine s_n ?_
              | refine sk_zero ?_
              | refine sk_succ ?_
              | refine wk_nil ?_
              | refine wk_cons ?_)
            refine g_cut (fun q2 : PQ => [(0, .v (ptr a)), (3, .v (.slice sd.a x.xs.length sd.cap)), (4, .v (.slice q2.2.a q2.1.2.length q2.2.cap)), (9, .v (.int .i64 s0.2.length)), (10, .v (.int .i64 hd)), (11, .box (csw y)), (13, .box (pv p)), (79, .v (.slice y.d.a y.c.pairs.length y.d.cap)), (80, .v (.int .i64 y.c.pairs.length)), (81, .v (.int .i64 k))]) (fun q2 => sqA sd q2.2 q2.1 ++ [ro m]) (fun q2 => q2.1 = keyS x.H y.c p q.1) ?_ (fun q2 hq2 => ?_)
            · by_cases hK : KeyW y.c
              · have hkw := hK
                unfold KeyW at hkw
                repeat' (first
                  | (refine k_L ?_; refine a_p rfl ?_)
                  | refine a_n ?_
                  | (refine k_V ?_; first | refine v_seq ?_ | refine v_reg ?_ | (refine v_cd rfl (fun hb => ?_) (fun hb => ?_) <;> try (exfalso; omega))))
                refine g_c rfl (l2mark_n (sd := sd) (kd := q.2) (w := p.key) (s := q.1) (S := Held x.H) h h1 h2 k1 hv1 (hv1.len.trans hl)) (fun v As' hq => ?_)
                obtain ⟨kd', rfl, rfl⟩ := hq
                repeat' (first
                  | (refine k_L ?_; refine a_p rfl ?_)
                  | refine a_n ?_
                  | refine s_n ?_)
                exact j_i ((mkW x.H q.1 p.key, kd') : PQ) (by unfold keyS; rw [if_pos hK])
              · have hkw := hK
                unfold KeyW at hkw
                repeat' (first
                  | (refine k_L ?_; refine a_p rfl ?_)
                  | refine a_n ?_
                  | (refine k_V ?_; first | refine v_seq ?_ | refine v_reg ?_ | refine v_skip ?_ | (refine v_cd rfl (fun hb => ?_) (fun hb => ?_) <;> try (exfalso; omega)))
                  | refine s_n ?_)
                exact j_i q (by unfold keyS; rw [if_neg hK])
            · obtain ⟨q2, kd2⟩ := q2
              dsimp only at hq2 ⊢
              subst hq2
              have hat := fun hk2 => k1.at hk2
              have yes : ∀ hH : Hit x.H (keyS x.H y.c p q.1).1 p.key, ∀ hV : ValW y.c, valS x.H y.c p (keyS x.H y.c p q.1) = mkW x.H (keyS x.H y.c p q.1) p.val := fun hH hV => by unfold valS; rw [if_pos ⟨hV, hH⟩]
              have nay : ¬ (ValW y.c ∧ Hit x.H (keyS x.H y.c p q.1).1 p.key) → valS x.H y.c p (keyS x.H y.c p q.1) = keyS x.H y.c p q.1 := fun hn => by unfold valS; rw [if_neg hn]
              have a3 := a1.len.trans hl
              by_cases hk2 : p.key.kind = 2
              · have ht : x.H.tgt p.key = some (x.H.lead p.key).at_.toNat := by unfold Heap.tgt; rw [if_pos (lead_kind.2 hk2)]
                have hlt := tgt_lt h2 k1 ht
                generalize (x.H.lead p.key).at_.toNat = kk at ht hlt
                have e : x.H.lead p.key = ⟨2, (x.H.lead p.key).num, (kk : Int)⟩ := by rw [← hlt.2.1, ← hlt.2.2]
                obtain ⟨b, gb⟩ : ∃ b, (keyS x.H y.c p q.1).1[kk]? = some b := ⟨_, List.getElem?_eq_getElem (by rw [a1.len]; exact hlt.1)⟩
                have hHb : Hit x.H (keyS x.H y.c p q.1).1 p.key ↔ b = true := by
                  constructor
                  · intro hH
                    have := hH kk ht
                    rw [gb] at this; simpa using this
                  · intro hb j' hj'
                    rw [ht] at hj'; cases hj'
                    rw [gb, hb]
                by_cases hV : ValW y.c
                · have hvw := hV
                  unfold ValW at hvw
                  cases b with
                  | true =>
                    rw [yes (hHb.2 rfl) hV] at n1 n2 n3 n4
                    repeat' (first
                      | (refine k_L ?_; first | refine a_p rfl ?_ | (refine k_g ?_; first | refine a_gy rfl rfl ?_ | (refine a_gd rfl (fun hb => ?_) (fun hb => ?_) <;> try (exfalso; omega))) | (refine k_l ?_; refine g_l rfl ?_) | (refine k_i ?_; refine g_i rfl rfl ?_) | (refine k_st ?_; refine g_sw rfl rfl rfl rfl (Nat.le_of_ble_eq_true rfl) ?_) | (refine k_al ?_; refine a_al ?_) | (refine k_c ?_; refine a_cq rfl (fun m hm => qt_e (l1resolve_q (has_g h hm) hat) (congrArg wa e)) ?_))
                      | refine a_n ?_
                      | (refine k_V ?_; first | refine v_seq ?_ | refine v_reg ?_ | refine v_ct rfl ?_)
                      | refine sk_zero ?_
                      | refine sk_succ ?_
                      | refine wk_nil ?_
                      | refine wk_cons ?_)
                    refine g_c rfl (l2mark_n (sd := sd) (kd := kd2) (w := p.val) (s := keyS x.H y.c p q.1) (S := Held x.H) h h1 h2 v1 a1 a3) (fun v As' hq => ?_)
                    obtain ⟨kd', rfl, rfl⟩ := hq
                    repeat' (first
                      | (refine k_L ?_; refine a_p rfl ?_)
                      | refine a_n ?_)
                    exact r_nx ((mkW x.H (keyS x.H y.c p q.1) p.val, kd') : PQ) ⟨n1, n2, n3, n4⟩ (he := Pm.ent (by (fail_if_success apply pm_bad); (repeat (first | exact pm_nil | (apply pm_cons; repeat (first | exact pk_h | apply pk_t)))); fail_if_success focus skip))
                  | false =>
                    rw [nay (fun h => by have := hHb.1 h.2; cases this)] at n1 n2 n3 n4
                    repeat' (first
                      | (refine k_L ?_; first | refine a_p rfl ?_ | (refine k_g ?_; first | refine a_gy rfl rfl ?_ | (refine a_gd rfl (fun hb => ?_) (fun hb => ?_) <;> try (exfalso; omega))) | (refine k_l ?_; refine g_l rfl ?_) | (refine k_i ?_; refine g_i rfl rfl ?_) | (refine k_st ?_; refine g_sw rfl rfl rfl rfl (Nat.le_of_ble_eq_true rfl) ?_) | (refine k_al ?_; refine a_al ?_) | (refine k_c ?_; refine a_cq rfl (fun m hm => qt_e (l1resolve_q (has_g h hm) hat) (congrArg wa e)) ?_))
                      | refine a_n ?_
                      | (refine k_V ?_; first | refine v_seq ?_ | refine v_reg ?_ | refine v_skip ?_ | refine v_cf rfl ?_)
                      | refine sk_zero ?_
                      | refine sk_succ ?_
                      | refine wk_nil ?_
                      | refine wk_cons ?_)
                    exact r_nx ((keyS x.H y.c p q.1, kd2) : PQ) ⟨n1, n2, n3, n4⟩ (he := Pm.ent (by (fail_if_success apply pm_bad); (repeat (first | exact pm_nil | (apply pm_cons; repeat (first | exact pk_h | apply pk_t)))); fail_if_success focus skip))
                · have hvw := hV
                  unfold ValW at hvw
                  rw [nay (fun h => hV h.1)] at n1 n2 n3 n4
                  repeat' (first
                    | (refine k_L ?_; first | refine a_p rfl ?_ | (refine k_g ?_; first | refine a_gn rfl rfl ?_ | refine a_gu rfl ?_ | (refine a_gd rfl (fun hb => ?_) (fun hb => ?_) <;> try (exfalso; omega))) | (refine k_st ?_; refine g_sw rfl rfl rfl rfl (Nat.le_of_ble_eq_true rfl) ?_) | (refine k_al ?_; refine a_al ?_) | (refine k_c ?_; refine a_cq rfl (fun m hm => qt_e (l1resolve_q (has_g h hm) hat) (congrArg wa e)) ?_))
                    | refine a_n ?_
                    | (refine k_V ?_; first | refine v_seq ?_ | refine v_reg ?_ | refine v_skip ?_ | refine v_cf rfl ?_)
                    | refine sk_zero ?_
                    | refine sk_succ ?_
                    | refine wk_nil ?_
                    | refine wk_cons ?_)
                  exact r_nx ((keyS x.H y.c p q.1, kd2) : PQ) ⟨n1, n2, n3, n4⟩ (he := Pm.ent (by (fail_if_success apply pm_bad); (repeat (first | exact pm_nil | (apply pm_cons; repeat (first | exact pk_h | apply pk_t)))); fail_if_success focus skip))
              · have ht : x.H.tgt p.key = none := by unfold Heap.tgt; rw [if_neg (fun h => hk2 (lead_kind.1 h))]
                have hk3 : ¬ (x.H.lead p.key).kind = 2 := fun h => hk2 (lead_kind.1 h)
                have hH : Hit x.H (keyS x.H y.c p q.1).1 p.key := fun j' hj' => by rw [ht] at hj'; cases hj'
                by_cases hV : ValW y.c
                · have hvw := hV
                  unfold ValW at hvw
                  rw [yes hH hV] at n1 n2 n3 n4
                  repeat' (first
                    | (refine k_L ?_; first | refine a_p rfl ?_ | (refine k_g ?_; first | refine a_gy rfl rfl ?_ | refine a_gn rfl rfl ?_ | (refine a_gd rfl (fun hb => ?_) (fun hb => ?_) <;> try (exfalso; omega)) | (refine a_gne rfl (fun hb => ?_) (fun hb => ?_) <;> try (exfalso; omega))) | (refine k_st ?_; refine g_sw rfl rfl rfl rfl (Nat.le_of_ble_eq_true rfl) ?_) | (refine k_al ?_; refine a_al ?_) | (refine k_c ?_; refine a_cq rfl (fun m hm => l1resolve_q (has_g h hm) hat) ?_))
                    | refine a_n ?_
                    | (refine k_V ?_; first | refine v_seq ?_ | refine v_reg ?_ | refine v_ct rfl ?_)
                    | refine sk_zero ?_
                    | refine sk_succ ?_
                    | refine wk_nil ?_
                    | refine wk_cons ?_)
                  refine g_c rfl (l2mark_n (sd := sd) (kd := kd2) (w := p.val) (s := keyS x.H y.c p q.1) (S := Held x.H) h h1 h2 v1 a1 a3) (fun v As' hq => ?_)
                  obtain ⟨kd', rfl, rfl⟩ := hq
                  repeat' (first
                    | (refine k_L ?_; refine a_p rfl ?_)
                    | refine a_n ?_)
                  exact r_nx ((mkW x.H (keyS x.H y.c p q.1) p.val, kd') : PQ) ⟨n1, n2, n3, n4⟩ (he := Pm.ent (by (fail_if_success apply pm_bad); (repeat (first | exact pm_nil | (apply pm_cons; repeat (first | exact pk_h | apply pk_t)))); fail_if_success focus skip))
                · have hvw := hV
                  unfold ValW at hvw
                  rw [nay (fun h => hV h.1)] at n1 n2 n3 n4
                  repeat' (first
                    | (refine k_L ?_; first | refine a_p rfl ?_ | (refine k_g ?_; first | refine a_gn rfl rfl ?_ | refine a_gu rfl ?_ | (refine a_gd rfl (fun hb => ?_) (fun hb => ?_) <;> try (exfalso; omega))) | (refine k_st ?_; refine g_sw rfl rfl rfl rfl (Nat.le_of_ble_eq_true rfl) ?_) | (refine k_al ?_; refine a_al ?_) | (refine k_c ?_; refine a_cq rfl (fun m hm => l1resolve_q (has_g h hm) hat) ?_))
                    | refine a_n ?_
                    | (refine k_V ?_; first | refine v_seq ?_ | refine v_reg ?_ | refine v_skip ?_ | refine v_cf rfl ?_)
                    | refine sk_zero ?_
                    | refine sk_succ ?_
                    | refine wk_nil ?_
                    | refine wk_cons ?_)
                  exact r_nx ((keyS x.H y.c p q.1, kd2) : PQ) ⟨n1, n2, n3, n4⟩ (he := Pm.ent (by (fail_if_success apply pm_bad); (repeat (first | exact pm_nil | (apply pm_cons; repeat (first | exact pk_h | apply pk_t)))); fail_if_success focus skip))
          · obtain ⟨hv1, hv2, hv3, hv4⟩ := hv
            rw [List.take_of_length_le (Nat.le_refl _)] at hv4
            have hgl2 := hv2.len
            have hmsr := hv2.msr
            repeat' (first
              | (refine k_L ?_; first | (refine k_ad ?_; refine g_ad rfl rfl ?_) | refine a_p rfl ?_)
              | refine a_n ?_
              | (refine k_V ?_; refine v_reg ?_)
              | refine s_n ?_)
            refine ⟨_, (q, hd + 1), ?_, ⟨rfl, rfl, rfl, rfl, rfl, trivial⟩, Pm.ent (by (fail_if_success apply pm_bad); (repeat (first | exact pm_nil | (apply pm_cons; repeat (first | exact pk_h | apply pk_t)))); fail_if_success focus skip), rfl, ?_, hv1, hgr.trans hv2, hsm.trans hv3 hgl2 hgl, fun e k' j' c hk' hg' hc' => ?_⟩
            · dsimp only; omega
            · dsimp only; omega
            · dsimp only at e hk'
              have es : s = s0 := by
                rcases hsm with h' | h'
                · exact h'
                · exfalso; rw [e] at hgl2; omega
              subst es
              by_cases ek : k' = hd
              · subst ek
                rw [gg] at hg'
                have : j' = j := by have := Option.some.inj hg'; omega
                subst this
                rw [gc] at hc'; cases hc'
                exact fun p hp => hv4 e p hp
              · exact hcalm rfl k' j' c (by omega) hg' hc'
        · repeat' (first
            | (refine k_L ?_; refine a_p rfl ?_)
            | refine a_n ?_
            | (refine k_V ?_; first | refine v_seq ?_ | refine v_reg ?_ | refine v_exit ?_ | (refine v_cd rfl (fun hb => ?_) (fun hb => ?_) <;> try (exfalso; omega)))
            | refine s_n ?_
            | refine s_e ?_
            | refine b_n ?_
            | refine b_e ?_)
          refine ⟨_, ((s, kd), (s0.2.length : Int)), ?_, ⟨rfl, rfl, rfl, rfl, trivial⟩, Pm.ent (by (fail_if_success apply pm_bad); (repeat (first | exact pm_nil | (apply pm_cons; repeat (first | exact pk_h | apply pk_t)))); fail_if_success focus skip), rfl, ⟨hok, fun j hj => ?_⟩, ⟨fun w hw => (hfull.regs w hw).grow hgr, fun i c hc hl2 => hgr.mono i (hfull.dues i c hc hl2)⟩, fun e i c hi hc => ?_⟩
          · dsimp only
            rw [if_neg hbf]
            rcases hsm with rfl | hs
            · rw [if_pos rfl]; omega
            · split <;> omega
          · rcases hgr.new j hj with h' | h'
            · exact hgr.old _ (hma.all j h')
            · exact h'
          · dsimp only at e hi ⊢
            rcases hsm with rfl | hs
            · obtain ⟨k, hk⟩ := List.getElem?_of_mem (hma.all i hi)
              have hkl := (List.getElem?_eq_some_iff.1 hk).1
              exact hcalm rfl k i c (by omega) hk hc
            · omega
end Go.Proofs.Ytcmllambknfleaa.E
/- What is held, the program's: words that wait. Conditions: none. -/
set_option linter.unusedVariables false
set_option linter.unusedSimpArgs false
set_option maxHeartbeats 8000000
set_option maxRecDepth 100000
namespace Go.Proofs.Ytcmllambknfleaa.E
open Go
open Classical
/-! ### Words that wait: for each cell a slice of them -/
abbrev WE := D × List Word
def wv0 : WE := (⟨none, 0⟩, [])
def WE.sl (e : WE) : Value := .slice e.1.a e.2.length e.1.cap
def wtA (W : List WE) : Asr := star (W.map fun e => slA 3 wv e.1 e.2)
def wmA (b : Nat) (W : List WE) : Asr := fun m => ∃ g, mpA b g m ∧ ∀ (j : Nat) e, W[j]? = some e → (g j).getD (.slice none 0 0) = e.sl
theorem wt_out {W : List WE} {i : Nat} {e : WE} (hi : W[i]? = some e) {m : Mem} (h : wtA W m) : star [slA 3 wv e.1 e.2, wtA (W.eraseIdx i)] m := by
  obtain ⟨hlt, he⟩ := List.getElem?_eq_some_iff.1 hi
  have hp := (erase_perm hlt).symm.map (fun e : WE => slA 3 wv e.1 e.2)
  have := star_perm hp h
  rw [he] at this
  obtain ⟨a, b, d, e1, h1, h2⟩ := this
  exact star2.2 ⟨a, b, d, e1, h1, h2⟩
theorem wt_in {W : List WE} {i : Nat} {e' : WE} (hi : i < W.length) {m : Mem} (h : star [slA 3 wv e'.1 e'.2, wtA (W.eraseIdx i)] m) : wtA (W.set i e') m := by
  have hlt : i < (W.set i e').length := by simpa using hi
  have hp := (erase_perm hlt).map (fun e : WE => slA 3 wv e.1 e.2)
  rw [List.getElem_set_self, List.eraseIdx_set_eq] at hp
  refine star_perm hp ?_
  obtain ⟨a, b, d, e1, h1, h2⟩ := star2.1 h
  exact ⟨a, b, d, e1, h1, h2⟩
theorem ent_wout {W : List WE} {i : Nat} {e : WE} {R : List Asr} (hi : W[i]? = some e) : Ent (wtA W :: R) (slA 3 wv e.1 e.2 :: wtA (W.eraseIdx i) :: R) := ent_of fun m h => by
  have := star_cons_mono h (fun _ h => wt_out hi h) (fun _ h => h)
  exact star_in.1 this
theorem ent_win {W : List WE} {i : Nat} {e' : WE} {R : List Asr} (hi : i < W.length) : Ent (slA 3 wv e'.1 e'.2 :: wtA (W.eraseIdx i) :: R) (wtA (W.set i e') :: R) := ent_of fun m h => by
  have : star (star [slA 3 wv e'.1 e'.2, wtA (W.eraseIdx i)] :: R) m := star_in.2 h
  exact star_cons_mono this (fun _ h => wt_in hi h) (fun _ h => h)
theorem sl_nil {α : Type} {f : α → List Value} {size : Nat} : slA size f ⟨none, 0⟩ [] emp := ⟨.inl ⟨0, rfl, rfl, rfl⟩, fun _ _ => rfl⟩
theorem ent_wclr {W : List WE} {i : Nat} {R : List Asr} (hi : i < W.length) : Ent (wtA (W.eraseIdx i) :: R) (wtA (W.set i wv0) :: R) := ent_h fun m h => wt_in hi (star2.2 ⟨emp, m, fun _ => .inl rfl, rfl, sl_nil, h⟩)
theorem wt_nil : ∀ n : Nat, wtA (List.replicate n wv0) emp
  | 0 => rfl
  | n + 1 => ⟨emp, emp, fun _ => .inl rfl, rfl, sl_nil, wt_nil n⟩
theorem ent_wnil {n : Nat} {R : List Asr} : Ent R (wtA (List.replicate n wv0) :: R) := ent_of fun m h => ⟨emp, m, fun _ => .inl rfl, rfl, wt_nil n, h⟩
/-- a map of none -/
theorem ent_wm0 {b n : Nat} {R : List Asr} : Ent (mpA b (fun _ => none) :: R) (wmA b (List.replicate n wv0) :: R) := ent_h fun m h => ⟨_, h, fun j e he => by
  rw [List.getElem?_replicate] at he
  split at he
  · cases he; rfl
  · cases he⟩
theorem ent_wm {b : Nat} {g : Int → Option Value} {W : List WE} {R : List Asr} (hW : ∀ (j : Nat) e, W[j]? = some e → (g j).getD (.slice none 0 0) = WE.sl e) : Ent (mpA b g :: R) (wmA b W :: R) := ent_h fun m h => ⟨g, h, hW⟩
theorem v_wm {E : Env} {c : C} {Q : X → St → List Asr → Prop} {S : St} {b : Nat} {W : List WE} {R : List Asr} (h : ∀ g : Int → Option Value, (∀ (j : Nat) e, W[j]? = some e → (g j).getD (.slice none 0 0) = WE.sl e) → VA E c Q S (mpA b g :: R)) : VA E c Q S (wmA b W :: R) :=
  ⟨fun m hm => by
    obtain ⟨a, c, dj, e1, ⟨g, hg, hW⟩, hR⟩ := hm
    exact (h g hW).out m ⟨a, c, dj, e1, hg, hR⟩⟩
theorem l_wm {P : Program} {l : List I} {post : St → List Asr → Prop} {S : St} {b : Nat} {W : List WE} {R : List Asr} (h : ∀ g : Int → Option Value, (∀ (j : Nat) e, W[j]? = some e → (g j).getD (.slice none 0 0) = WE.sl e) → LA P l post S (mpA b g :: R)) : LA P l post S (wmA b W :: R) :=
  ⟨fun m hm => by
    obtain ⟨a, c, dj, e1, ⟨g, hg, hW⟩, hR⟩ := hm
    exact (h g hW).out m ⟨a, c, dj, e1, hg, hR⟩⟩
theorem wm_clr {g : Int → Option Value} {W : List WE} {j : Nat} (hW : ∀ (j : Nat) e, W[j]? = some e → (g j).getD (.slice none 0 0) = WE.sl e) :
    ∀ (i : Nat) e, (W.set j wv0)[i]? = some e → ((fun i : Int => if i = (j : Int) then none else g i) i).getD (.slice none 0 0) = WE.sl e := by
  intro i e he
  rw [List.getElem?_set] at he
  by_cases h : j = i
  · subst h
    rw [if_pos rfl] at he
    split at he
    · cases he; simp; rfl
    · cases he
  · rw [if_neg h] at he
    have : ¬ ((i : Int) = (j : Int)) := by omega
    simp only [this, if_false]
    exact hW i e he
theorem wm_put {g : Int → Option Value} {W : List WE} {j : Nat} {e' : WE} (hW : ∀ (j : Nat) e, W[j]? = some e → (g j).getD (.slice none 0 0) = WE.sl e) :
    ∀ (i : Nat) e, (W.set j e')[i]? = some e → ((fun i : Int => if i = (j : Int) then some (WE.sl e') else g i) i).getD (.slice none 0 0) = WE.sl e := by
  intro i e he
  rw [List.getElem?_set] at he
  by_cases h : j = i
  · subst h
    rw [if_pos rfl] at he
    split at he
    · cases he; simp
    · cases he
  · rw [if_neg h] at he
    have : ¬ ((i : Int) = (j : Int)) := by omega
    simp only [this, if_false]
    exact hW i e he

/-! ### What stays true -/
def PairOk (H : Heap) (seen : List Bool) (W : List WE) (c : Cell) (p : Pair) : Prop :=
  (KeyW c → Hit H seen p.key) ∧ (ValW c → Hit H seen p.val ∨ ∃ k e, H.tgt p.key = some k ∧ W[k]? = some e ∧ p.val ∈ e.2)
/-- ex: the cell that is just gone through; ew: the one whose waiting words are just gone through -/
structure HI (H : Heap) (s : List Bool × List Int) (W : List WE) (B : Nat) (pc : Nat) (ex ew : Nat → Prop) : Prop where
  mk' : Mk H (Held H) s
  pc : pc + s.2.length + s.1.count false ≤ H.cells.length
  wl : W.length = H.cells.length
  wlen : ∀ e, e ∈ W → e.2.length ≤ B
  wok : ∀ (k : Nat) e, W[k]? = some e → ∀ w, w ∈ e.2 → Formed H w ∧ (Held H k → ∀ j, H.tgt w = some j → j < H.cells.length ∧ Held H j)
  rule : ∀ (i : Nat) c, s.1[i]? = some true → (i : Int) ∉ s.2 → ¬ ex i → H.cells[i]? = some c → ∀ p, p ∈ c.pairs → PairOk H s.1 W c p
  empt : ∀ (k : Nat) e, W[k]? = some e → s.1[k]? = some true → (k : Int) ∉ s.2 → ¬ ew k → e.2 = []
theorem PairOk.grow {H : Heap} {s t : List Bool × List Int} {W : List WE} {c : Cell} {p : Pair} (h : PairOk H s.1 W c p) (g : Grow s t) : PairOk H t.1 W c p :=
  ⟨fun k => (h.1 k).grow g, fun v => (h.2 v).imp (fun h => h.grow g) id⟩
/-- one word marked -/
theorem HI.mark {H : Heap} {s : List Bool × List Int} {W : List WE} {B pc : Nat} {ex ew : Nat → Prop} {w : Word} (h : HI H s W B pc ex ew) (hw : ∀ j, H.tgt w = some j → j < H.cells.length ∧ Held H j) : HI H (mkW H s w) W B pc ex ew ∧ Grow s (mkW H s w) ∧ Hit H (mkW H s w).1 w := by
  obtain ⟨a, g, d⟩ := mkW_ok h.mk' hw
  have hn : ∀ i : Nat, (mkW H s w).1[i]? = some true → (i : Int) ∉ (mkW H s w).2 → s.1[i]? = some true ∧ (i : Int) ∉ s.2 := fun i h1 h2 => ⟨(g.new i h1).elim id fun h' => absurd h' h2, fun h' => h2 (g.old _ h')⟩
  refine ⟨⟨a, ?_, h.wl, h.wlen, h.wok, fun i c h1 h2 h3 h4 p hp => (h.rule i c (hn i h1 h2).1 (hn i h1 h2).2 h3 h4 p hp).grow g, fun k e h1 h2 h3 h4 => h.empt k e h1 (hn k h2 h3).1 (hn k h2 h3).2 h4⟩, g, d⟩
  have := h.pc
  unfold mkW
  split
  · split
    · rename_i j _ hs
      have := count_set hs
      simp only [List.length_append, List.length_singleton]
      omega
    · exact this
  · exact this
theorem HI.weak {H : Heap} {s : List Bool × List Int} {W : List WE} {B B' pc : Nat} {ex ew : Nat → Prop} (h : HI H s W B pc ex ew) (hB : B ≤ B') : HI H s W B' pc ex ew := ⟨h.mk', h.pc, h.wl, fun e he => Nat.le_trans (h.wlen e he) hB, h.wok, h.rule, h.empt⟩
/-- the top of the stack taken -/
theorem HI.pop {H : Heap} {seen : List Bool} {init : List Int} {j : Nat} {W : List WE} {B pc : Nat} (h : HI H (seen, init ++ [(j : Int)]) W B pc (fun _ => False) (fun _ => False)) : HI H (seen, init) W B (pc + 1) (fun i => i = j) (fun i => i = j) := by
  have hp := h.pc
  simp only [List.length_append, List.length_singleton] at hp
  have hn : ∀ i : Nat, (i : Int) ∉ init → ¬ i = j → (i : Int) ∉ init ++ [(j : Int)] := fun i h1 h2 h3 => by
    rcases List.mem_append.1 h3 with h3 | h3
    · exact h1 h3
    · simp only [List.mem_singleton] at h3; omega
  refine ⟨⟨h.mk'.len, h.mk'.snd, fun g hg => h.mk'.stk g (by simp [hg]), ?_⟩, ?_, h.wl, h.wlen, h.wok, fun i c h1 h2 h3 h4 p hp' => h.rule i c h1 (hn i h2 h3) (fun h => h) h4 p hp', fun k e h1 h2 h3 h4 => h.empt k e h1 h2 (hn k h3 h4) (fun h => h)⟩
  · dsimp only; omega
  · dsimp only; omega
/-- the words that waited for it have all been marked: they are forgotten -/
theorem HI.clr {H : Heap} {s : List Bool × List Int} {W : List WE} {B pc j : Nat} {e : WE} (h : HI H s W B pc (fun i => i = j) (fun i => i = j)) (he : W[j]? = some e) (hh : ∀ w, w ∈ e.2 → Hit H s.1 w) : HI H s (W.set j wv0) B pc (fun i => i = j) (fun _ => False) := by
  have hjl := (List.getElem?_eq_some_iff.1 he).1
  have hg : ∀ (k : Nat) e', (W.set j wv0)[k]? = some e' → (k = j ∧ e' = wv0) ∨ (k ≠ j ∧ W[k]? = some e') := fun k e' h => by
    rw [List.getElem?_set] at h
    by_cases hk : j = k
    · subst hk
      rw [if_pos rfl, if_pos hjl] at h
      exact .inl ⟨rfl, (Option.some.inj h).symm⟩
    · rw [if_neg hk] at h
      exact .inr ⟨fun e => hk e.symm, h⟩
  refine ⟨h.mk', h.pc, by simpa using h.wl, fun e' he' => ?_, fun k e' hk w hw => ?_, fun i c h1 h2 h3 h4 p hp => ?_, fun k e' hk h2 h3 _ => ?_⟩
  · obtain ⟨k, hk⟩ := List.getElem?_of_mem he'
    rcases hg k e' hk with ⟨_, rfl⟩ | ⟨_, h'⟩
    · simp [wv0]
    · exact h.wlen e' (List.mem_of_getElem? h')
  · rcases hg k e' hk with ⟨_, rfl⟩ | ⟨_, h'⟩
    · simp [wv0] at hw
    · exact h.wok k e' h' w hw
  · obtain ⟨r1, r2⟩ := h.rule i c h1 h2 h3 h4 p hp
    refine ⟨r1, fun hv => ?_⟩
    rcases r2 hv with r | ⟨k, e', ht, hk, hm⟩
    · exact .inl r
    · by_cases hkj : k = j
      · subst hkj
        rw [he] at hk; cases hk
        exact .inl (hh _ hm)
      · exact .inr ⟨k, e', ht, by rw [List.getElem?_set_ne (fun e => hkj e.symm)]; exact hk, hm⟩
  · rcases hg k e' hk with ⟨_, rfl⟩ | ⟨hne, h'⟩
    · rfl
    · exact h.empt k e' h' h2 h3 hne
/-- one more word waits -/
theorem HI.wait {H : Heap} {s : List Bool × List Int} {W : List WE} {B pc k : Nat} {ex : Nat → Prop} {e : WE} {d : D} {w : Word} (h : HI H s W B pc ex (fun _ => False)) (he : W[k]? = some e) (hs : s.1[k]? = some false) (hw : Formed H w ∧ (Held H k → ∀ j, H.tgt w = some j → j < H.cells.length ∧ Held H j)) :
    HI H s (W.set k (d, e.2 ++ [w])) (B + 1) pc ex (fun _ => False) ∧ ∀ c p, PairOk H s.1 W c p → PairOk H s.1 (W.set k (d, e.2 ++ [w])) c p := by
  have hkl := (List.getElem?_eq_some_iff.1 he).1
  have hg : ∀ (i : Nat) e', (W.set k (d, e.2 ++ [w]))[i]? = some e' → (i = k ∧ e' = (d, e.2 ++ [w])) ∨ (i ≠ k ∧ W[i]? = some e') := fun i e' h => by
    rw [List.getElem?_set] at h
    by_cases hk : k = i
    · subst hk
      rw [if_pos rfl, if_pos hkl] at h
      exact .inl ⟨rfl, (Option.some.inj h).symm⟩
    · rw [if_neg hk] at h
      exact .inr ⟨fun e => hk e.symm, h⟩
  have hpo : ∀ c p, PairOk H s.1 W c p → PairOk H s.1 (W.set k (d, e.2 ++ [w])) c p := fun c p ⟨r1, r2⟩ => ⟨r1, fun hv => by
    rcases r2 hv with r | ⟨i, e', ht, hi, hm⟩
    · exact .inl r
    · by_cases hik : i = k
      · subst hik
        rw [he] at hi; cases hi
        exact .inr ⟨i, (d, e.2 ++ [w]), ht, by rw [List.getElem?_set, if_pos rfl, if_pos hkl], List.mem_append_left _ hm⟩
      · exact .inr ⟨i, e', ht, by rw [List.getElem?_set_ne (fun e => hik e.symm)]; exact hi, hm⟩⟩
  refine ⟨⟨h.mk', h.pc, by simpa using h.wl, fun e' he' => ?_, fun i e' hi w' hw' => ?_, fun i c h1 h2 h3 h4 p hp => hpo c p (h.rule i c h1 h2 h3 h4 p hp), fun i e' hi h2 h3 _ => ?_⟩, hpo⟩
  · obtain ⟨i, hi⟩ := List.getElem?_of_mem he'
    rcases hg i e' hi with ⟨_, rfl⟩ | ⟨_, h'⟩
    · have := h.wlen e (List.mem_of_getElem? he)
      simp; omega
    · have := h.wlen e' (List.mem_of_getElem? h'); omega
  · rcases hg i e' hi with ⟨rfl, rfl⟩ | ⟨_, h'⟩
    · rcases List.mem_append.1 hw' with hw' | hw'
      · exact h.wok i e he w' hw'
      · simp only [List.mem_singleton] at hw'; subst hw'; exact hw
    · exact h.wok i e' h' w' hw'
  · rcases hg i e' hi with ⟨rfl, rfl⟩ | ⟨hne, h'⟩
    · rw [hs] at h2; cases h2
    · exact h.empt i e' h' h2 h3 (fun h => h)
/-- the cell gone through is as the rules say -/
theorem HI.done {H : Heap} {s : List Bool × List Int} {W : List WE} {B pc j : Nat} {c : Cell} (h : HI H s W B pc (fun i => i = j) (fun _ => False)) (hc : H.cells[j]? = some c) (hp : ∀ p, p ∈ c.pairs → PairOk H s.1 W c p) : HI H s W B pc (fun _ => False) (fun _ => False) :=
  ⟨h.mk', h.pc, h.wl, h.wlen, h.wok, fun i c' h1 h2 _ h4 p hp' => by
    by_cases e : i = j
    · subst e; rw [hc] at h4; cases h4; exact hp p hp'
    · exact h.rule i c' h1 h2 e h4 p hp', h.empt⟩
theorem HI.fin {H : Heap} {seen : List Bool} {W : List WE} {B pc : Nat} (h : HI H (seen, []) W B pc (fun _ => False) (fun _ => False)) (hf : HFull H seen) : seen = heldL H :=
  held_end h.mk' hf fun i c hi hc p hp => by
    obtain ⟨r1, r2⟩ := h.rule i c hi (by simp) (fun h => h) hc p hp
    refine ⟨r1, fun hv hk => ?_⟩
    rcases r2 hv with r | ⟨k, e, ht, he, hm⟩
    · exact r
    · have := h.empt k e he (hk k ht) (by simp) (fun h => h)
      rw [this] at hm; cases hm
theorem HI.init (H : Heap) {s : List Bool × List Int} (h : MkA H (Held H) s) : HI H s (List.replicate H.cells.length wv0) 0 0 (fun _ => False) (fun _ => False) := by
  have hw : ∀ (k : Nat) e, (List.replicate H.cells.length wv0)[k]? = some e → e = wv0 := fun k e he => by
    rw [List.getElem?_replicate] at he
    split at he
    · exact (Option.some.inj he).symm
    · cases he
  have hc := h.ok.cnt
  exact ⟨h.ok, by omega, by simp, fun e he => by obtain ⟨k, hk⟩ := List.getElem?_of_mem he; rw [hw k e hk]; simp [wv0], fun k e he w hw' => (by rw [hw k e he] at hw'; simp [wv0] at hw'), fun i c h1 h2 => absurd (h.all i h1) h2, fun k e he _ _ _ => (by rw [hw k e he]; rfl)⟩
end Go.Proofs.Ytcmllambknfleaa.E
/- What is held, the program's. Conditions: none. -/
set_option linter.unusedVariables false
set_option linter.unusedSimpArgs false
set_option maxHeartbeats 8000000
set_option maxRecDepth 100000
namespace Go.Proofs.Ytcmllambknfleaa.E
open Go
open Classical
abbrev PW := PQ × List WE
abbrev hoA (m : Mem) (a p1 p2 p3 mb : Nat) (sd : D) (q : PW) : List Asr := seA a p1 p2 p3 sd q.1.2 q.1.1 ++ [wmA mb q.2, wtA q.2, ro m]
theorem holds_a {m : Mem} {a : Nat} {x : HX} (h : Has m (hp a x)) (h1 : R1 x.H) (h2 : R2 x.H) (h4 : R4 x.H) : FnA Try.prog 115 [ptr a] [ro m] (fun v As => ∃ sd : D, v = .slice sd.a (heldL x.H).length sd.cap ∧ As = [slA 1 bv sd (heldL x.H), ro m]) := by
  have hb0 := h.lens
  have hl := x.len
  have hc1 := h1.cells
  have hc2 := h1.room
  refine fnA_of (fun h => fn115 (by simp) h) ?_
  repeat' (first
    | (refine k_L ?_; first | refine a_p rfl ?_ | (refine k_l ?_; refine g_l rfl ?_) | (refine a_nw (vs := [ptr a]) rfl rfl (fun p1 => ?_)) | (refine a_mk (f := bv) (n := (x.xs.length : Int)) (k := (x.xs.length : Int)) false (fun _ => rfl) rfl rfl rfl (by omega) (by omega) (fun sd hsd => ?_)))
    | refine a_n ?_
    | (refine k_V ?_; first | refine v_seq ?_ | refine v_reg ?_))
  refine a_nz (fun p2 => ?_)
  repeat' (first
    | (refine k_L ?_; first | refine a_p rfl ?_ | (refine g_sb rfl rfl rfl rfl ?_) | (refine a_mm (fun mb => ?_)))
    | refine a_n ?_
    | (refine k_V ?_; first | refine v_seq ?_ | refine v_reg ?_))
  refine a_nz (fun p3 => ?_)
  repeat' (first
    | (refine k_L ?_; first | refine a_p rfl ?_ | (refine k_l ?_; refine g_l rfl ?_))
    | refine a_n ?_
    | (refine k_V ?_; first | refine v_seq ?_ | refine v_reg ?_)
    | refine s_n ?_)
  have hm0 := mk0 x.H (Held x.H)
  rw [hl] at hm0
  refine VA.ent (ent_new (f := iv) (size := 1)) ?_
  have hreg : ∀ w, w ∈ x.H.regs → ∀ j, x.H.tgt w = some j → j < x.H.cells.length ∧ Held x.H j := fun w hw j hj => ⟨(tgt_lt h2 (h4.regs w hw).1 hj).1, .reg hw hj⟩
  have hfn : fnOk Try.prog 152 = true := fnOk_of Try.func152 rfl rfl
  refine g_range x.regs.length (fun q : PQ => [(1, .v (ptr p1)), (3, .v (ptr p2)), (4, .v (.map (some mb))), (5, .v (ptr p3)), (6, .v (.func (.func 152) #[] #[ptr p1, ptr p2, ptr p3])), (29, .v (.slice x.rd.a x.regs.length x.rd.cap))]) (fun q => seA a p1 p2 p3 sd q.2 q.1 ++ [mpA mb (fun _ => none), ro m])
    (fun i q => MkA x.H (Held x.H) q.1 ∧ ∀ w, w ∈ x.H.regs.take i → Hit x.H q.1.1 w) (((List.replicate x.xs.length false, []), ⟨none, 0⟩) : PQ) ⟨hm0, by simp⟩ (fun i q hi hv => ?_) (fun q hv => ?_) (hent := by
    show Ent _ (seA a p1 p2 p3 sd ⟨none, 0⟩ (List.replicate x.xs.length false, []) ++ [mpA mb (fun _ => none), ro m])
    simp only [seA, List.length_replicate]
    exact Pm.ent (by (fail_if_success apply pm_bad); (repeat (first | exact pm_nil | (apply pm_cons; repeat (first | exact pk_h | apply pk_t)))); fail_if_success focus skip))
  · obtain ⟨w, gw⟩ : ∃ w, x.regs[i]? = some w := ⟨_, List.getElem?_eq_getElem hi⟩
    have hwm : w ∈ x.H.regs := List.mem_of_getElem? gw
    obtain ⟨n1, n2, n3⟩ := hv.1.next (hreg w hwm)
    repeat' (first
      | (refine k_L ?_; first | refine a_p rfl ?_ | (refine k_i ?_; refine g_i rfl rfl ?_) | (refine k_ls ?_; refine g_ls rfl ?_) | (refine k_st ?_; refine g_sw rfl rfl rfl rfl (Nat.le_of_ble_eq_true rfl) ?_) | (refine k_al ?_; refine a_al ?_) | (refine a_cv rfl hfn rfl (holds1_a (p1 := p1) (p2 := p2) (p3 := p3) (sd := sd) (kd := q.2) (w := w) (S := Held x.H) h h1 h2 (h4.regs w hwm).1 hv.1.ok) (by (fail_if_success apply pm_bad); (repeat (first | exact pm_nil | (apply pm_cons; repeat (first | exact pk_h | apply pk_t)))); fail_if_success focus skip) (fun v As' hq => ?_); obtain ⟨kd', rfl⟩ := hq))
      | refine a_n ?_
      | (refine k_V ?_; first | refine v_seq ?_ | refine v_reg ?_)
      | refine sk_zero ?_
      | refine sk_succ ?_
      | refine wk_nil ?_
      | refine wk_cons ?_)
    refine r_nx ((mkW x.H q.1 w, kd') : PQ) ⟨n1, fun w' hw' => ?_⟩ (he := Pm.ent (by (fail_if_success apply pm_bad); (repeat (first | exact pm_nil | (apply pm_cons; repeat (first | exact pk_h | apply pk_t)))); fail_if_success focus skip))
    rw [List.take_add_one, List.mem_append] at hw'
    rcases hw' with hw' | hw'
    · exact (hv.2 w' hw').grow n2
    · rw [show x.H.regs[i]? = some w from gw] at hw'
      simp only [Option.toList_some, List.mem_singleton] at hw'
      subst hw'; exact n3
  · obtain ⟨hv1, hv2⟩ := hv
    rw [List.take_of_length_le (by exact Nat.le_refl _)] at hv2
    repeat' (first
      | (refine k_L ?_; first | refine a_p rfl ?_ | (refine k_l ?_; refine g_l rfl ?_))
      | refine a_n ?_
      | (refine k_V ?_; first | refine v_seq ?_ | refine v_reg ?_)
      | refine s_n ?_)
    refine g_range x.xs.length (fun q : PQ => [(1, .v (ptr p1)), (3, .v (ptr p2)), (4, .v (.map (some mb))), (5, .v (ptr p3)), (6, .v (.func (.func 152) #[] #[ptr p1, ptr p2, ptr p3])), (42, .v (.slice x.cd.a x.xs.length x.cd.cap))]) (fun q => seA a p1 p2 p3 sd q.2 q.1 ++ [mpA mb (fun _ => none), ro m])
      (fun i q => MkA x.H (Held x.H) q.1 ∧ (∀ w, w ∈ x.H.regs → Hit x.H q.1.1 w) ∧ ∀ (j : Nat) c, j < i → x.H.cells[j]? = some c → c.last = 2 → q.1.1[j]? = some true) q ⟨hv1, hv2, fun j c hj => by omega⟩ (fun i q hi hv => ?_) (fun q hv => ?_) (hent := Pm.ent (by (fail_if_success apply pm_bad); (repeat (first | exact pm_nil | (apply pm_cons; repeat (first | exact pk_h | apply pk_t)))); fail_if_success focus skip))
    · obtain ⟨y, gy, gc⟩ := HX.at hi
      obtain ⟨hv1, hv2, hv3⟩ := hv
      by_cases hr : y.c.last = 2
      · have hst := last2 h2 gc hr
        obtain ⟨n1, n2, n3⟩ := hv1.next (w := ⟨2, 0, i⟩) (fun j hj => by
          rw [tgt_root gc hst] at hj
          cases hj
          exact ⟨by omega, .due gc hr⟩)
        repeat' (first
          | (refine k_L ?_; first | refine a_p rfl ?_ | (refine k_g ?_; first | refine a_gy rfl rfl ?_ | (refine a_gd rfl (fun hb => ?_) (fun hb => ?_) <;> try (exfalso; omega))) | (refine k_i ?_; refine g_i rfl rfl ?_) | (refine k_ls ?_; refine g_ls rfl ?_) | (refine k_st ?_; refine g_sw rfl rfl rfl rfl (Nat.le_of_ble_eq_true rfl) ?_) | (refine k_al ?_; refine a_al ?_) | (refine a_cv rfl hfn rfl (holds1_a (p1 := p1) (p2 := p2) (p3 := p3) (sd := sd) (kd := q.2) (w := ⟨2, 0, i⟩) (S := Held x.H) h h1 h2 (formed_at (by omega)) hv1.ok) (by (fail_if_success apply pm_bad); (repeat (first | exact pm_nil | (apply pm_cons; repeat (first | exact pk_h | apply pk_t)))); fail_if_success focus skip) (fun v As' hq => ?_); obtain ⟨kd', rfl⟩ := hq))
          | refine a_n ?_
          | (refine k_V ?_; first | refine v_seq ?_ | refine v_reg ?_ | (refine v_cd rfl (fun hb => ?_) (fun hb => ?_) <;> try (exfalso; omega)))
          | refine sk_zero ?_
          | refine sk_succ ?_
          | refine wk_nil ?_
          | refine wk_cons ?_)
        refine r_nx ((mkW x.H q.1 ⟨2, 0, i⟩, kd') : PQ) ⟨n1, fun w' hw' => (hv2 w' hw').grow n2, fun j c hj hc hl2 => ?_⟩ (he := Pm.ent (by (fail_if_success apply pm_bad); (repeat (first | exact pm_nil | (apply pm_cons; repeat (first | exact pk_h | apply pk_t)))); fail_if_success focus skip))
        by_cases e : j = i
        · subst e
          exact n3 j (tgt_root gc hst)
        · exact n2.mono j (hv3 j c (by omega) hc hl2)
      · have nxt : ∀ (j : Nat) c, j < i + 1 → x.H.cells[j]? = some c → c.last = 2 → q.1.1[j]? = some true := fun j c hj hc hl2 => by
          by_cases e : j = i
          · subst e; rw [gc] at hc; cases hc; exact absurd hl2 hr
          · exact hv3 j c (by omega) hc hl2
        repeat' (first
          | (refine k_L ?_; first | refine a_p rfl ?_ | (refine k_g ?_; first | refine a_gy rfl rfl ?_ | refine a_gn rfl rfl ?_ | (refine a_gd rfl (fun hb => ?_) (fun hb => ?_) <;> try (exfalso; omega))) | (refine k_i ?_; refine g_i rfl rfl ?_) | (refine k_ls ?_; refine g_ls rfl ?_) | (refine k_st ?_; refine g_sw rfl rfl rfl rfl (Nat.le_of_ble_eq_true rfl) ?_) | (refine k_al ?_; refine a_al ?_))
          | refine a_n ?_
          | (refine k_V ?_; first | refine v_seq ?_ | refine v_reg ?_ | refine v_skip ?_ | refine v_cf rfl ?_ | (refine v_cd rfl (fun hb => ?_) (fun hb => ?_) <;> try (exfalso; omega)))
          | refine sk_zero ?_
          | refine sk_succ ?_
          | refine wk_nil ?_
          | refine wk_cons ?_)
        all_goals exact r_nx q ⟨hv1, hv2, nxt⟩ (he := Pm.ent (by (fail_if_success apply pm_bad); (repeat (first | exact pm_nil | (apply pm_cons; repeat (first | exact pk_h | apply pk_t)))); fail_if_success focus skip))
    · obtain ⟨hv1, hv2, hv3⟩ := hv
      have hfull : HFull x.H q.1.1 := ⟨hv2, fun i c hc hr => hv3 i c (by have := (List.getElem?_eq_some_iff.1 hc).1; omega) hc hr⟩
      have hi0 := HI.init x.H hv1
      clear hv1 hv2 hv3
      repeat' (first
        | refine a_n ?_
        | (refine k_V ?_; refine v_seq ?_))
      refine VA.ent (Bs := mpA mb (fun _ => none) :: (seA a p1 p2 p3 sd q.2 q.1 ++ [ro m])) (Pm.ent (by (fail_if_success apply pm_bad); (repeat (first | exact pm_nil | (apply pm_cons; repeat (first | exact pk_h | apply pk_t)))); fail_if_success focus skip)) ?_
      refine VA.ent (ent_wm0 (n := x.H.cells.length)) ?_
      refine VA.ent (ent_wnil (n := x.H.cells.length)) ?_
      refine v_blk ?_
      refine v_loop (fun q : PW => [(1, .v (ptr p1)), (3, .v (ptr p2)), (4, .v (.map (some mb))), (5, .v (ptr p3)), (6, .v (.func (.func 152) #[] #[ptr p1, ptr p2, ptr p3]))]) (fun q => hoA m a p1 p2 p3 mb sd q)
        (fun k q => k = 2 * q.1.1.1.count false + q.1.1.2.length ∧ (∃ pc, HI x.H q.1.1 q.2 (200 * pc) pc (fun _ => False) (fun _ => False)) ∧ HFull x.H q.1.1.1) ⟨_, (q, List.replicate x.H.cells.length wv0), ⟨rfl, rfl, rfl, rfl, rfl, trivial⟩, Pm.ent (by (fail_if_success apply pm_bad); (repeat (first | exact pm_nil | (apply pm_cons; repeat (first | exact pk_h | apply pk_t)))); fail_if_success focus skip), rfl, ⟨0, hi0⟩, hfull⟩ ?_
      clear hi0 hfull
      rintro k ⟨⟨⟨seen, stk⟩, kd⟩, W⟩ ⟨rfl, ⟨pc, hI⟩, hfull⟩
      dsimp only at hI hfull ⊢
      rcases (show stk = [] ∨ ∃ init g, stk = init ++ [g] from by
        by_cases hne : stk = []
        · exact .inl hne
        · exact .inr ⟨_, _, (List.dropLast_concat_getLast hne).symm⟩) with rfl | ⟨init, g, rfl⟩
      · have e := hI.fin hfull
        subst e
        repeat' (first
          | (refine k_L ?_; first | refine a_p rfl ?_ | (refine k_l ?_; refine g_l rfl ?_))
          | refine a_n ?_
          | (refine k_V ?_; first | refine v_seq ?_ | refine v_reg ?_ | refine v_ret ?_ | refine v_exit ?_ | refine v_cf rfl ?_))
        exact fa_r (As' := [slA 1 bv sd (heldL x.H), ro m]) (fun _ _ => rfl) (Pm.ent (by (fail_if_success apply pm_bad); (repeat (first | exact pm_nil | (apply pm_cons; repeat (first | exact pk_h | apply pk_t)))); fail_if_success focus skip)) ⟨sd, rfl, rfl⟩
      · obtain ⟨j, rfl, hj⟩ := hI.mk'.stk g (by simp)
        dsimp only at hj
        have hHj := hI.mk'.snd j hj
        have hjn : j < x.H.cells.length := by
          have h1' := (List.getElem?_eq_some_iff.1 hj).1
          have h2' := hI.mk'.len
          dsimp only at h2'
          omega
        have hjl : j < x.xs.length := by omega
        obtain ⟨y, gy, gc⟩ := HX.at hjl
        have hpl := h2.pl (List.mem_of_getElem? gc)
        have hlen : (init ++ [(j : Int)]).length = init.length + 1 := by simp
        have gj : (init ++ [(j : Int)])[(((init ++ [(j : Int)]).length : Int) - 1).toNat]? = some (j : Int) := by
          rw [hlen, show (((init.length + 1 : Nat) : Int) - 1).toNat = init.length by omega]; simp
        have hcnt := hI.pc
        dsimp only at hcnt
        have e0 : (((init ++ [(j : Int)]).length : Int) - 1).toNat = init.length := by rw [hlen]; omega
        obtain ⟨we, hwe⟩ : ∃ we, W[j]? = some we := ⟨_, List.getElem?_eq_getElem (by rw [hI.wl]; exact hjn)⟩
        have hwlen := hI.wlen we (List.mem_of_getElem? hwe)
        have hI1 := hI.pop
        refine v_kn (p := (init ++ [(j : Int)]).length ≤ kd.cap) (kn_t (kn_t (kn_t (kn_t (kn_h cp_sl))))) (fun hcap => ?_)
        refine VA.ent (Bs := wmA mb W :: wtA W :: (seA a p1 p2 p3 sd kd (seen, init ++ [(j : Int)]) ++ [ro m])) (Pm.ent (by (fail_if_success apply pm_bad); (repeat (first | exact pm_nil | (apply pm_cons; repeat (first | exact pk_h | apply pk_t)))); fail_if_success focus skip)) ?_
        refine v_wm (fun gm hgm => ?_)
        have hlk : (gm (j : Int)).getD (.slice none 0 0) = .slice we.1.a we.2.length we.1.cap := hgm j we hwe
        refine VA.ent (Bs := wtA W :: mpA mb gm :: (seA a p1 p2 p3 sd kd (seen, init ++ [(j : Int)]) ++ [ro m])) (Pm.ent (by (fail_if_success apply pm_bad); (repeat (first | exact pm_nil | (apply pm_cons; repeat (first | exact pk_h | apply pk_t)))); fail_if_success focus skip)) ?_
        refine VA.ent (ent_wout hwe) ?_
        repeat' (first
          | (refine k_L ?_; first | (refine k_su ?_; refine g_su rfl rfl ?_) | refine a_p rfl ?_ | (refine k_l ?_; refine g_l rfl ?_) | (refine k_i ?_; refine g_i rfl rfl ?_) | (refine g_sb rfl rfl rfl rfl ?_) | (refine g_tk rfl rfl ?_) | (refine a_lk (by (fail_if_success apply pk_bad); (repeat (first | exact pk_h | apply pk_t)); fail_if_success focus skip) rfl rfl hlk ?_))
          | refine a_n ?_
          | (refine k_V ?_; first | refine v_seq ?_ | refine v_reg ?_ | refine v_bs ?_ | refine v_ret ?_ | refine v_exit ?_ | refine v_skip ?_ | (refine v_cd rfl (fun hb => ?_) (fun hb => ?_) <;> try (exfalso; omega)))
          | refine s_n ?_)
        rotate_left
        · exfalso; simp at hb
        rw [e0]
        refine VA.ent (Bs := [slA 1 iv kd (init ++ [(j : Int)]), bx p1 [ptr a], bx p2 [.slice sd.a seen.length sd.cap], slA 1 bv sd seen, bx p3 [.slice kd.a init.length kd.cap], slA 3 wv we.1 we.2, mpA mb gm, wtA (W.eraseIdx j), ro m]) (Pm.ent (by (fail_if_success apply pm_bad); (repeat (first | exact pm_nil | (apply pm_cons; repeat (first | exact pk_h | apply pk_t)))); fail_if_success focus skip)) ?_
        refine VA.ent (ent_pre iv_len) ?_
        refine g_range we.2.length (fun q : PQ => [(1, .v (ptr p1)), (3, .v (ptr p2)), (4, .v (.map (some mb))), (5, .v (ptr p3)), (6, .v (.func (.func 152) #[] #[ptr p1, ptr p2, ptr p3])), (11, .v (.int .i64 j)), (78, .v (.slice we.1.a we.2.length we.1.cap))]) (fun q => seA a p1 p2 p3 sd q.2 q.1 ++ [slA 3 wv we.1 we.2, mpA mb gm, wtA (W.eraseIdx j), ro m])
          (fun i q => HI x.H q.1 W (200 * pc) (pc + 1) (fun i => i = j) (fun i => i = j) ∧ Grow (seen, init) q.1 ∧ ∀ w, w ∈ we.2.take i → Hit x.H q.1.1 w) (((seen, init), kd) : PQ) ⟨hI1, Grow.refl _, by simp⟩ (fun i q hi hv => ?_) (fun q hv => ?_) (hent := Pm.ent (by (fail_if_success apply pm_bad); (repeat (first | exact pm_nil | (apply pm_cons; repeat (first | exact pk_h | apply pk_t)))); fail_if_success focus skip))
        · obtain ⟨w, gw⟩ : ∃ w, we.2[i]? = some w := ⟨_, List.getElem?_eq_getElem hi⟩
          obtain ⟨hv1, hv2, hv3⟩ := hv
          obtain ⟨k1, k2⟩ := hI.wok j we hwe w (List.mem_of_getElem? gw)
          obtain ⟨n1, n2, n3⟩ := hv1.mark (k2 hHj)
          repeat' (first
            | (refine k_L ?_; first | refine a_p rfl ?_ | (refine k_i ?_; refine g_i rfl rfl ?_) | (refine k_ls ?_; refine g_ls rfl ?_) | (refine k_st ?_; refine g_sw rfl rfl rfl rfl (Nat.le_of_ble_eq_true rfl) ?_) | (refine k_al ?_; refine a_al ?_) | (refine a_cv rfl hfn rfl (holds1_a (p1 := p1) (p2 := p2) (p3 := p3) (sd := sd) (kd := q.2) (w := w) (S := Held x.H) h h1 h2 k1 hv1.mk') (by (fail_if_success apply pm_bad); (repeat (first | exact pm_nil | (apply pm_cons; repeat (first | exact pk_h | apply pk_t)))); fail_if_success focus skip) (fun v As' hq => ?_); obtain ⟨kd', rfl⟩ := hq))
            | refine a_n ?_
            | (refine k_V ?_; first | refine v_seq ?_ | refine v_reg ?_)
            | refine sk_zero ?_
            | refine sk_succ ?_
            | refine wk_nil ?_
            | refine wk_cons ?_)
          refine r_nx ((mkW x.H q.1 w, kd') : PQ) ⟨n1, hv2.trans n2, fun w' hw' => ?_⟩ (he := Pm.ent (by (fail_if_success apply pm_bad); (repeat (first | exact pm_nil | (apply pm_cons; repeat (first | exact pk_h | apply pk_t)))); fail_if_success focus skip))
          rw [List.take_add_one, List.mem_append] at hw'
          rcases hw' with hw' | hw'
          · exact (hv3 w' hw').grow n2
          · rw [gw] at hw'
            simp only [Option.toList_some, List.mem_singleton] at hw'
            subst hw'; exact n3
        · obtain ⟨hv1, hv2, hv3⟩ := hv
          rw [List.take_of_length_le (Nat.le_refl _)] at hv3
          have hI2 := hv1.clr hwe hv3
          repeat' (first
            | (refine k_L ?_; first | refine a_p rfl ?_ | (refine k_l ?_; refine g_l rfl ?_) | (refine k_i ?_; refine g_i rfl rfl ?_) | (refine k_ls ?_; refine g_ls rfl ?_) | (refine k_st ?_; refine g_sw rfl rfl rfl rfl (Nat.le_of_ble_eq_true rfl) ?_) | (refine k_al ?_; refine a_al ?_) | (refine a_md (by (fail_if_success apply pk_bad); (repeat (first | exact pk_h | apply pk_t)); fail_if_success focus skip) rfl rfl ?_))
            | refine a_n ?_
            | (refine k_V ?_; first | refine v_seq ?_ | refine v_reg ?_)
            | refine s_n ?_
            | refine sk_zero ?_
            | refine sk_succ ?_
            | refine wk_nil ?_
            | refine wk_cons ?_)
          refine VA.ent (Bs := mpA mb (fun i => if i = (j : Int) then none else gm i) :: wtA (W.eraseIdx j) :: (seA a p1 p2 p3 sd q.2 q.1 ++ [ro m])) (Pm.ent (by (fail_if_success apply pm_bad); (repeat (first | exact pm_nil | (apply pm_cons; repeat (first | exact pk_h | apply pk_t)))); fail_if_success focus skip)) ?_
          refine VA.ent (ent_wm (wm_clr hgm)) ?_
          refine VA.ent (Bs := wtA (W.eraseIdx j) :: wmA mb (W.set j wv0) :: (seA a p1 p2 p3 sd q.2 q.1 ++ [ro m])) (Pm.ent (by (fail_if_success apply pm_bad); (repeat (first | exact pm_nil | (apply pm_cons; repeat (first | exact pk_h | apply pk_t)))); fail_if_success focus skip)) ?_
          refine VA.ent (ent_wclr (List.getElem?_eq_some_iff.1 hwe).1) ?_
          refine g_range y.c.pairs.length (fun q : PW => [(1, .v (ptr p1)), (3, .v (ptr p2)), (4, .v (.map (some mb))), (5, .v (ptr p3)), (6, .v (.func (.func 152) #[] #[ptr p1, ptr p2, ptr p3])), (14, .box (csw y)), (98, .v (.slice y.d.a y.c.pairs.length y.d.cap))]) (fun q => hoA m a p1 p2 p3 mb sd q)
            (fun k q => HI x.H q.1.1 q.2 (200 * pc + k) (pc + 1) (fun i => i = j) (fun _ => False) ∧ Grow (seen, init) q.1.1 ∧ ∀ p, p ∈ y.c.pairs.take k → PairOk x.H q.1.1.1 q.2 y.c p) ((q, W.set j wv0) : PW) ⟨hI2, hv2, by simp⟩ (fun k q hk hv => ?_) (fun q hv => ?_) (hent := Pm.ent (by (fail_if_success apply pm_bad); (repeat (first | exact pm_nil | (apply pm_cons; repeat (first | exact pk_h | apply pk_t)))); fail_if_success focus skip))
          · obtain ⟨p, gp⟩ : ∃ p, y.c.pairs[k]? = some p := ⟨_, List.getElem?_eq_getElem hk⟩
            have hpm := List.mem_of_getElem? gp
            obtain ⟨k1, v1, _⟩ := h4.pairs j y.c gc k p gp
            obtain ⟨⟨qs, kd2⟩, Wq⟩ := q
            obtain ⟨hv1, hv2, hv3⟩ := hv
            dsimp only at hv1 hv2 hv3 ⊢
            have ck : KeyW y.c → ∀ j', x.H.tgt p.key = some j' → j' < x.H.cells.length ∧ Held x.H j' := fun hK j' hj' => ⟨(tgt_lt h2 k1 hj').1, .key hHj gc hpm hK hj'⟩
            have cv : ValW y.c → (∀ i, x.H.tgt p.key = some i → Held x.H i) → ∀ j', x.H.tgt p.val = some j' → j' < x.H.cells.length ∧ Held x.H j' := fun hV hH j' hj' => ⟨(tgt_lt h2 v1 hj').1, .val hHj gc hpm hV hH hj'⟩
            have hkey : HI x.H (keyS x.H y.c p qs) Wq (200 * pc + k) (pc + 1) (fun i => i = j) (fun _ => False) ∧ Grow qs (keyS x.H y.c p qs) ∧ (KeyW y.c → Hit x.H (keyS x.H y.c p qs).1 p.key) := by
              unfold keyS
              by_cases hK : KeyW y.c
              · rw [if_pos hK]
                obtain ⟨a, b, d⟩ := hv1.mark (ck hK)
                exact ⟨a, b, fun _ => d⟩
              · rw [if_neg hK]
                exact ⟨hv1, Grow.refl _, fun h => absurd h hK⟩
            refine v_seq ?_
            repeat' (first
              | (refine k_L ?_; first | (refine k_i ?_; refine g_i rfl rfl ?_) | (refine k_ls ?_; refine g_ls rfl ?_) | (refine k_st ?_; refine g_sw rfl rfl rfl rfl (Nat.le_of_ble_eq_true rfl) ?_) | (refine k_al ?_; refine a_al ?_))
              | refine a_n ?_
              | (refine k_V ?_; refine v_reg ?_)
              | refine s_n ?_
              | refine sk_zero ?_
              | refine sk_succ ?_
              | refine wk_nil ?_
              | refine wk_cons ?_)
            refine g_cut (fun q2 : PQ => [(1, .v (ptr p1)), (3, .v (ptr p2)), (4, .v (.map (some mb))), (5, .v (ptr p3)), (6, .v (.func (.func 152) #[] #[ptr p1, ptr p2, ptr p3])), (14, .box (csw y)), (16, .box (pv p)), (98, .v (.slice y.d.a y.c.pairs.length y.d.cap)), (99, .v (.int .i64 y.c.pairs.length)), (100, .v (.int .i64 k))]) (fun q2 => hoA m a p1 p2 p3 mb sd (q2, Wq)) (fun q2 => q2.1 = keyS x.H y.c p qs) ?_ (fun q2 hq2 => ?_)
            · by_cases hK : KeyW y.c
              · have hkw := hK
                unfold KeyW at hkw
                repeat' (first
                  | (refine k_L ?_; first | refine a_p rfl ?_ | (refine a_cv rfl hfn rfl (holds1_a (p1 := p1) (p2 := p2) (p3 := p3) (sd := sd) (kd := kd2) (w := p.key) (S := Held x.H) h h1 h2 k1 hv1.mk') (by (fail_if_success apply pm_bad); (repeat (first | exact pm_nil | (apply pm_cons; repeat (first | exact pk_h | apply pk_t)))); fail_if_success focus skip) (fun v As' hq => ?_); obtain ⟨kd', rfl⟩ := hq))
                  | refine a_n ?_
                  | (refine k_V ?_; first | refine v_seq ?_ | refine v_reg ?_ | (refine v_cd rfl (fun hb => ?_) (fun hb => ?_) <;> try (exfalso; omega)))
                  | refine s_n ?_)
                exact j_i ((mkW x.H qs p.key, kd') : PQ) (by unfold keyS; rw [if_pos hK]) (he := Pm.ent (by (fail_if_success apply pm_bad); (repeat (first | exact pm_nil | (apply pm_cons; repeat (first | exact pk_h | apply pk_t)))); fail_if_success focus skip))
              · have hkw := hK
                unfold KeyW at hkw
                repeat' (first
                  | (refine k_L ?_; refine a_p rfl ?_)
                  | refine a_n ?_
                  | (refine k_V ?_; first | refine v_seq ?_ | refine v_reg ?_ | refine v_skip ?_ | (refine v_cd rfl (fun hb => ?_) (fun hb => ?_) <;> try (exfalso; omega)))
                  | refine s_n ?_)
                exact j_i ((qs, kd2) : PQ) (by unfold keyS; rw [if_neg hK]) (he := Pm.ent (by (fail_if_success apply pm_bad); (repeat (first | exact pm_nil | (apply pm_cons; repeat (first | exact pk_h | apply pk_t)))); fail_if_success focus skip))
            · obtain ⟨q2, kd3⟩ := q2
              dsimp only at hq2 ⊢
              subst hq2
              obtain ⟨a1, a2, a4⟩ := hkey
              generalize keyS x.H y.c p qs = ks at a1 a2 a4
              have hat := fun hk2 => k1.at hk2
              have old : ∀ p', p' ∈ y.c.pairs.take k → PairOk x.H ks.1 Wq y.c p' := fun p' hp' => (hv3 p' hp').grow a2
              have nx : ∀ {t : List Bool × List Int} {W' : List WE}, (∀ p', PairOk x.H ks.1 Wq y.c p' → PairOk x.H t.1 W' y.c p') → PairOk x.H t.1 W' y.c p → ∀ p', p' ∈ y.c.pairs.take (k + 1) → PairOk x.H t.1 W' y.c p' := fun ho hn p' hp' => by
                rw [List.take_add_one, List.mem_append] at hp'
                rcases hp' with hp' | hp'
                · exact ho p' (old p' hp')
                · rw [gp] at hp'
                  simp only [Option.toList_some, List.mem_singleton] at hp'
                  subst hp'; exact hn
              by_cases hV : ValW y.c
              · have hvw := hV
                unfold ValW at hvw
                by_cases hk2 : p.key.kind = 2
                · have ht : x.H.tgt p.key = some (x.H.lead p.key).at_.toNat := by unfold Heap.tgt; rw [if_pos (lead_kind.2 hk2)]
                  have hlt := tgt_lt h2 k1 ht
                  generalize (x.H.lead p.key).at_.toNat = kk at ht hlt
                  have e : x.H.toI p.key = (kk : Int) := by unfold Heap.toI; rw [if_pos hk2]; exact hlt.2.2
                  have hksl := a1.mk'.len
                  have hkl := hlt.1
                  obtain ⟨b, gb⟩ : ∃ b, ks.1[kk]? = some b := ⟨_, List.getElem?_eq_getElem (by rw [a1.mk'.len]; exact hlt.1)⟩
                  cases b with
                  | true =>
                    have hH : ∀ i, x.H.tgt p.key = some i → Held x.H i := fun i hi => by rw [ht] at hi; cases hi; exact a1.mk'.snd kk gb
                    obtain ⟨b1, b2, b3⟩ := a1.mark (cv hV hH)
                    repeat' (first
                      | (refine k_L ?_; first | refine a_p rfl ?_ | (refine k_g ?_; refine a_gy rfl rfl ?_) | (refine k_l ?_; refine g_l rfl ?_) | (refine k_i ?_; refine g_i rfl rfl ?_) | (refine k_c ?_; refine a_cq rfl (fun m hm => qt_e (to_q (has_g h hm) hat) (by rw [e])) ?_) | (refine a_cv rfl hfn rfl (holds1_a (p1 := p1) (p2 := p2) (p3 := p3) (sd := sd) (kd := kd3) (w := p.val) (S := Held x.H) h h1 h2 v1 a1.mk') (by (fail_if_success apply pm_bad); (repeat (first | exact pm_nil | (apply pm_cons; repeat (first | exact pk_h | apply pk_t)))); fail_if_success focus skip) (fun v As' hq => ?_); obtain ⟨kd', rfl⟩ := hq))
                      | refine a_n ?_
                      | (refine k_V ?_; first | refine v_seq ?_ | refine v_reg ?_ | refine v_skip ?_ | refine v_ct rfl ?_ | (refine v_cn rfl (fun hb => ?_) (fun hb => ?_) <;> try (exfalso; omega))))
                    exact r_nx (((mkW x.H ks p.val, kd'), Wq) : PW) ⟨b1.weak (by omega), (hv2.trans a2).trans b2, nx (fun p' hp' => hp'.grow b2) ⟨fun hK => (a4 hK).grow b2, fun _ => .inl b3⟩⟩ (he := Pm.ent (by (fail_if_success apply pm_bad); (repeat (first | exact pm_nil | (apply pm_cons; repeat (first | exact pk_h | apply pk_t)))); fail_if_success focus skip))
                  | false =>
                    obtain ⟨wk, hwk⟩ : ∃ wk, Wq[kk]? = some wk := ⟨_, List.getElem?_eq_getElem (by rw [a1.wl]; exact hlt.1)⟩
                    have hwkl := a1.wlen wk (List.mem_of_getElem? hwk)
                    have hpc := a1.pc
                    have hkkl := (List.getElem?_eq_some_iff.1 hwk).1
                    refine VA.ent (Bs := wmA mb Wq :: wtA Wq :: (seA a p1 p2 p3 sd kd3 ks ++ [ro m])) (Pm.ent (by (fail_if_success apply pm_bad); (repeat (first | exact pm_nil | (apply pm_cons; repeat (first | exact pk_h | apply pk_t)))); fail_if_success focus skip)) ?_
                    refine v_wm (fun gw hgw => ?_)
                    have hlk2 : (gw (kk : Int)).getD (.slice none 0 0) = .slice wk.1.a wk.2.length wk.1.cap := hgw kk wk hwk
                    refine VA.ent (Bs := wtA Wq :: mpA mb gw :: (seA a p1 p2 p3 sd kd3 ks ++ [ro m])) (Pm.ent (by (fail_if_success apply pm_bad); (repeat (first | exact pm_nil | (apply pm_cons; repeat (first | exact pk_h | apply pk_t)))); fail_if_success focus skip)) ?_
                    refine VA.ent (ent_wout hwk) ?_
                    repeat' (first
                      | (refine k_L ?_; first | refine a_p rfl ?_ | (refine k_g ?_; refine a_gy rfl rfl ?_) | (refine k_l ?_; refine g_l rfl ?_) | (refine k_i ?_; refine g_i rfl rfl ?_) | (refine k_bl ?_; refine a_bl rfl ?_) | (refine k_c ?_; refine a_cq rfl (fun m hm => qt_e (to_q (has_g h hm) hat) (by rw [e])) ?_) | (refine a_lk (by (fail_if_success apply pk_bad); (repeat (first | exact pk_h | apply pk_t)); fail_if_success focus skip) rfl rfl hlk2 ?_) | (refine g_ap (f := wv) p.val wv_len rfl rfl rfl ⟨by omega, by omega⟩ (fun e' => ?_)) | (refine a_mu (by (fail_if_success apply pk_bad); (repeat (first | exact pk_h | apply pk_t)); fail_if_success focus skip) rfl rfl rfl ?_))
                      | refine a_n ?_
                      | (refine k_V ?_; first | refine v_seq ?_ | refine v_reg ?_ | refine v_skip ?_ | refine v_cf rfl ?_ | (refine v_cn rfl (fun hb => ?_) (fun hb => ?_) <;> try (exfalso; omega))))
                    obtain ⟨c1, c2⟩ := a1.wait (d := e') (w := p.val) hwk gb ⟨v1, fun hHk => cv hV (fun i hi => by rw [ht] at hi; cases hi; exact hHk)⟩
                    refine r_nx (((ks, kd3), Wq.set kk (e', wk.2 ++ [p.val])) : PW) ⟨c1.weak (by omega), hv2.trans a2, nx (fun p' hp' => c2 y.c p' hp') ⟨a4, fun _ => .inr ⟨kk, (e', wk.2 ++ [p.val]), ht, by rw [List.getElem?_set, if_pos rfl, if_pos hkkl], by simp⟩⟩⟩ (he := ?_)
                    refine Ent.trans (B := slA 3 wv e' (wk.2 ++ [p.val]) :: wtA (Wq.eraseIdx kk) :: mpA mb (fun i => if i = (kk : Int) then some (WE.sl (e', wk.2 ++ [p.val])) else gw i) :: (seA a p1 p2 p3 sd kd3 ks ++ [ro m])) (Pm.ent (by (fail_if_success apply pm_bad); (repeat (first | exact pm_nil | (apply pm_cons; repeat (first | exact pk_h | apply pk_t)))); fail_if_success focus skip)) ?_
                    refine Ent.trans (ent_win (e' := (e', wk.2 ++ [p.val])) hkkl) ?_
                    refine Ent.trans (B := mpA mb (fun i => if i = (kk : Int) then some (WE.sl (e', wk.2 ++ [p.val])) else gw i) :: wtA (Wq.set kk (e', wk.2 ++ [p.val])) :: (seA a p1 p2 p3 sd kd3 ks ++ [ro m])) (Pm.ent (by (fail_if_success apply pm_bad); (repeat (first | exact pm_nil | (apply pm_cons; repeat (first | exact pk_h | apply pk_t)))); fail_if_success focus skip)) ?_
                    refine Ent.trans (ent_wm (wm_put hgw)) ?_
                    exact Pm.ent (by (fail_if_success apply pm_bad); (repeat (first | exact pm_nil | (apply pm_cons; repeat (first | exact pk_h | apply pk_t)))); fail_if_success focus skip)
                · have ht : x.H.tgt p.key = none := by unfold Heap.tgt; rw [if_neg (fun h => hk2 (lead_kind.1 h))]
                  have e : x.H.toI p.key = -1 := by unfold Heap.toI; rw [if_neg hk2]
                  have hH : ∀ i, x.H.tgt p.key = some i → Held x.H i := fun i hi => by rw [ht] at hi; cases hi
                  obtain ⟨b1, b2, b3⟩ := a1.mark (cv hV hH)
                  repeat' (first
                    | (refine k_L ?_; first | refine a_p rfl ?_ | (refine k_g ?_; refine a_gn rfl rfl ?_) | (refine k_l ?_; refine g_l rfl ?_) | (refine k_c ?_; refine a_cq rfl (fun m hm => qt_e (to_q (has_g h hm) hat) (by rw [e])) ?_) | (refine a_cv rfl hfn rfl (holds1_a (p1 := p1) (p2 := p2) (p3 := p3) (sd := sd) (kd := kd3) (w := p.val) (S := Held x.H) h h1 h2 v1 a1.mk') (by (fail_if_success apply pm_bad); (repeat (first | exact pm_nil | (apply pm_cons; repeat (first | exact pk_h | apply pk_t)))); fail_if_success focus skip) (fun v As' hq => ?_); obtain ⟨kd', rfl⟩ := hq))
                    | refine a_n ?_
                    | (refine k_V ?_; first | refine v_seq ?_ | refine v_reg ?_ | refine v_skip ?_ | refine v_ct rfl ?_ | (refine v_cn rfl (fun hb => ?_) (fun hb => ?_) <;> try (exfalso; omega))))
                  exact r_nx (((mkW x.H ks p.val, kd'), Wq) : PW) ⟨b1.weak (by omega), (hv2.trans a2).trans b2, nx (fun p' hp' => hp'.grow b2) ⟨fun hK => (a4 hK).grow b2, fun _ => .inl b3⟩⟩ (he := Pm.ent (by (fail_if_success apply pm_bad); (repeat (first | exact pm_nil | (apply pm_cons; repeat (first | exact pk_h | apply pk_t)))); fail_if_success focus skip))
              · have hvw := hV
                unfold ValW at hvw
                repeat' (first
                  | (refine k_L ?_; refine a_p rfl ?_)
                  | refine a_n ?_
                  | (refine k_V ?_; first | refine v_seq ?_ | refine v_reg ?_ | refine v_exit ?_ | (refine v_cn rfl (fun hb => ?_) (fun hb => ?_) <;> try (exfalso; omega)))
                  | refine s_e ?_)
                exact r_ct (((ks, kd3), Wq) : PW) ⟨a1.weak (by omega), hv2.trans a2, nx (fun p' hp' => hp') ⟨a4, fun h => absurd h hV⟩⟩ (he := Pm.ent (by (fail_if_success apply pm_bad); (repeat (first | exact pm_nil | (apply pm_cons; repeat (first | exact pk_h | apply pk_t)))); fail_if_success focus skip))
          · obtain ⟨hv1, hv2, hv3⟩ := hv
            rw [List.take_of_length_le (Nat.le_refl _)] at hv3
            have hI3 := (hv1.done gc hv3).weak (B' := 200 * (pc + 1)) (by omega)
            repeat' (first
              | refine a_n ?_
              | refine s_n ?_
              | refine b_n ?_)
            refine ⟨_, q, ?_, ⟨rfl, rfl, rfl, rfl, rfl, trivial⟩, Pm.ent (by (fail_if_success apply pm_bad); (repeat (first | exact pm_nil | (apply pm_cons; repeat (first | exact pk_h | apply pk_t)))); fail_if_success focus skip), rfl, ⟨pc + 1, hI3⟩, ⟨fun w hw => (hfull.regs w hw).grow hv2, fun i c hc hl2 => hv2.mono i (hfull.dues i c hc hl2)⟩⟩
            have := hv2.msr
            dsimp only at this
            omega
end Go.Proofs.Ytcmllambknfleaa.E
