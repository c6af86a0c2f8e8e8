/- The functions of the program in the engine's form, written by a program out of the loaded translation, and checked against it by the kernel. Conditions: none. -/
import Derived.Test.YtcmllambknfleaaKB7
set_option maxRecDepth 100000
set_option linter.unusedVariables false
namespace Go.Proofs.Ytcmllambknfleaa.E
open Go
/-! (*impl.Heap).rule1 -/
noncomputable def e95 : Env := ⟨Try.prog, [], 97, []⟩
noncomputable def c95 : C :=
  .seq (.reg [
    ⟨some 2, none, .mov (.const (.bool false))⟩]) (.seq (.reg [
    ⟨some 4, none, .mov (.tmp 0)⟩,
    ⟨some 5, none, .nilCheck (.tmp 4)⟩,
    ⟨some 6, none, .faddr 4 (.tmp 5)⟩,
    ⟨some 7, none, .load true 1 (.tmp 6)⟩,
    ⟨some 8, none, .lenS (.tmp 7)⟩,
    ⟨some 3, none, .mov (.tmp 8)⟩]) (.seq (.reg [
    ⟨some 9, none, .mov (.tmp 0)⟩,
    ⟨some 10, none, .nilCheck (.tmp 9)⟩,
    ⟨some 11, none, .faddr 0 (.tmp 10)⟩,
    ⟨some 12, none, .load true 1 (.tmp 11)⟩,
    ⟨some 13, none, .call 71 [.tmp 12, .const (.int .i64 1), .const (.int .i64 4000)]⟩,
    ⟨some 14, none, .mov (.tmp 13)⟩,
    ⟨some 15, some (14, true), .mov (.tmp 0)⟩,
    ⟨some 16, some (14, true), .nilCheck (.tmp 15)⟩,
    ⟨some 17, some (14, true), .faddr 3 (.tmp 16)⟩,
    ⟨some 18, some (14, true), .load true 1 (.tmp 17)⟩,
    ⟨some 19, some (14, true), .lenS (.tmp 18)⟩,
    ⟨some 20, some (14, true), .bin .eql (.tmp 19) (.const (.int .i64 16))⟩,
    ⟨some 21, none, .pick (.tmp 14) (.tmp 20) (.const (.bool false))⟩,
    ⟨some 22, none, .mov (.tmp 21)⟩,
    ⟨some 23, some (22, true), .mov (.tmp 3)⟩,
    ⟨some 24, some (22, true), .mov (.tmp 0)⟩,
    ⟨some 25, some (22, true), .nilCheck (.tmp 24)⟩,
    ⟨some 26, some (22, true), .faddr 0 (.tmp 25)⟩,
    ⟨some 27, some (22, true), .load true 1 (.tmp 26)⟩,
    ⟨some 28, some (22, true), .bin .mul (.const (.int .i64 2)) (.tmp 27)⟩,
    ⟨some 29, some (22, true), .bin .leq (.tmp 23) (.tmp 28)⟩,
    ⟨some 30, none, .pick (.tmp 22) (.tmp 29) (.const (.bool false))⟩,
    ⟨some 31, none, .mov (.tmp 30)⟩,
    ⟨some 32, some (31, true), .mov (.tmp 0)⟩,
    ⟨some 33, some (31, true), .nilCheck (.tmp 32)⟩,
    ⟨some 34, some (31, true), .faddr 8 (.tmp 33)⟩,
    ⟨some 35, some (31, true), .load true 1 (.tmp 34)⟩,
    ⟨some 36, some (31, true), .lenS (.tmp 35)⟩,
    ⟨some 37, some (31, true), .mov (.tmp 3)⟩,
    ⟨some 38, some (31, true), .bin .leq (.tmp 36) (.tmp 37)⟩,
    ⟨some 39, none, .pick (.tmp 31) (.tmp 38) (.const (.bool false))⟩,
    ⟨some 40, none, .mov (.tmp 39)⟩,
    ⟨some 41, some (40, true), .mov (.tmp 0)⟩,
    ⟨some 42, some (40, true), .nilCheck (.tmp 41)⟩,
    ⟨some 43, some (40, true), .faddr 2 (.tmp 42)⟩,
    ⟨some 44, some (40, true), .load true 1 (.tmp 43)⟩,
    ⟨some 45, some (40, true), .call 71 [.tmp 44, .const (.int .i64 0), .const (.int .i64 1000000000)]⟩,
    ⟨some 46, none, .pick (.tmp 40) (.tmp 45) (.const (.bool false))⟩,
    ⟨some 47, none, .mov (.tmp 46)⟩,
    ⟨some 48, some (47, true), .mov (.tmp 0)⟩,
    ⟨some 49, some (47, true), .nilCheck (.tmp 48)⟩,
    ⟨some 50, some (47, true), .faddr 11 (.tmp 49)⟩,
    ⟨some 51, some (47, true), .load true 1 (.tmp 50)⟩,
    ⟨some 52, some (47, true), .call 71 [.tmp 51, .const (.int .i64 0), .const (.int .i64 1000000000)]⟩,
    ⟨some 53, none, .pick (.tmp 47) (.tmp 52) (.const (.bool false))⟩,
    ⟨some 54, none, .mov (.tmp 53)⟩,
    ⟨some 55, some (54, true), .mov (.tmp 0)⟩,
    ⟨some 56, some (54, true), .nilCheck (.tmp 55)⟩,
    ⟨some 57, some (54, true), .faddr 12 (.tmp 56)⟩,
    ⟨some 58, some (54, true), .load true 1 (.tmp 57)⟩,
    ⟨some 59, some (54, true), .call 71 [.tmp 58, .const (.int .i64 0), .const (.int .i64 1000000000)]⟩,
    ⟨some 60, none, .pick (.tmp 54) (.tmp 59) (.const (.bool false))⟩,
    ⟨some 61, none, .mov (.tmp 60)⟩,
    ⟨some 62, some (61, true), .mov (.tmp 0)⟩,
    ⟨some 63, some (61, true), .nilCheck (.tmp 62)⟩,
    ⟨some 64, some (61, true), .faddr 9 (.tmp 63)⟩,
    ⟨some 65, some (61, true), .load true 1 (.tmp 64)⟩,
    ⟨some 66, some (61, true), .call 71 [.tmp 65, .const (.int .i64 0), .const (.int .i64 64)]⟩,
    ⟨some 67, none, .pick (.tmp 61) (.tmp 66) (.const (.bool false))⟩,
    ⟨some 68, none, .mov (.tmp 67)⟩,
    ⟨some 69, some (68, true), .mov (.tmp 0)⟩,
    ⟨some 70, some (68, true), .nilCheck (.tmp 69)⟩,
    ⟨some 71, some (68, true), .faddr 10 (.tmp 70)⟩,
    ⟨some 72, some (68, true), .load true 1 (.tmp 71)⟩,
    ⟨some 73, some (68, true), .call 71 [.tmp 72, .const (.int .i64 0), .const (.int .i64 4000)]⟩,
    ⟨some 74, none, .pick (.tmp 68) (.tmp 73) (.const (.bool false))⟩,
    ⟨some 75, none, .mov (.tmp 74)⟩,
    ⟨some 76, some (75, true), .mov (.tmp 0)⟩,
    ⟨some 77, some (75, true), .nilCheck (.tmp 76)⟩,
    ⟨some 78, some (75, true), .faddr 5 (.tmp 77)⟩,
    ⟨some 79, some (75, true), .load true 1 (.tmp 78)⟩,
    ⟨some 80, some (75, true), .call 71 [.tmp 79, .const (.int .i64 0), .const (.int .i64 6)]⟩,
    ⟨some 81, none, .pick (.tmp 75) (.tmp 80) (.const (.bool false))⟩,
    ⟨some 82, none, .mov (.tmp 81)⟩,
    ⟨some 83, some (82, true), .mov (.tmp 0)⟩,
    ⟨some 84, some (82, true), .nilCheck (.tmp 83)⟩,
    ⟨some 85, some (82, true), .faddr 6 (.tmp 84)⟩,
    ⟨some 86, some (82, true), .load true 1 (.tmp 85)⟩,
    ⟨some 87, some (82, true), .mov (.tmp 3)⟩,
    ⟨some 88, some (82, true), .call 71 [.tmp 86, .const (.int .i64 0), .tmp 87]⟩,
    ⟨some 89, none, .pick (.tmp 82) (.tmp 88) (.const (.bool false))⟩,
    ⟨some 90, none, .mov (.tmp 89)⟩,
    ⟨some 91, some (90, true), .mov (.tmp 0)⟩,
    ⟨some 92, some (90, true), .nilCheck (.tmp 91)⟩,
    ⟨some 93, some (90, true), .faddr 7 (.tmp 92)⟩,
    ⟨some 94, some (90, true), .load true 1 (.tmp 93)⟩,
    ⟨some 95, some (90, true), .call 71 [.tmp 94, .const (.int .i64 0), .const (.int .i64 200)]⟩,
    ⟨some 96, none, .pick (.tmp 90) (.tmp 95) (.const (.bool false))⟩,
    ⟨some 2, none, .mov (.tmp 96)⟩]) (.ret)))
theorem t95 : Try.f95.body.bind (trC e95) = some c95 := by kernel_rfl
theorem r95 : Try.f95.results.toList.mapM (trR Try.prog) = some [.tmp 2] := by kernel_rfl
theorem fn95 {args : List Value} {M : Mem} {post : Value → Mem → Prop} (hl : args.length ≤ 97) (h : VC e95 c95 (fnQ [.tmp 2] post) (initS args 97) M) : Fn Try.prog 95 args M post :=
  Fn.of' (E := e95) Try.func95 t95 rfl r95 mixed hl h
/-! (*impl.Heap).rule2 -/
noncomputable def e96 : Env := ⟨Try.prog, [6], 150, [(11, 36), (20, 49)]⟩
noncomputable def c96 : C :=
  .seq (.reg [
    ⟨some 2, none, .mov (.const (.bool false))⟩]) (.seq (.reg [
    ⟨some 8, none, .mkmap⟩,
    ⟨some 9, none, .mkmap⟩,
    ⟨some 3, none, .mov (.tmp 8)⟩,
    ⟨some 4, none, .mov (.tmp 9)⟩]) (.seq (.seq (.reg [
    ⟨some 10, none, .mov (.tmp 0)⟩,
    ⟨some 11, none, .nilCheck (.tmp 10)⟩,
    ⟨some 12, none, .faddr 4 (.tmp 11)⟩,
    ⟨some 13, none, .load true 1 (.tmp 12)⟩,
    ⟨some 14, none, .lenS (.tmp 13)⟩,
    ⟨some 15, none, .mov (.const (.int .i64 0))⟩]) (.block 0 (.loop (.seq (.reg [
    ⟨some 16, none, .bin .lss (.tmp 15) (.tmp 14)⟩]) (.seq (.cond (.tmp 16) (.skip) (.exit 0)) (.seq (.block 1 (.seq (.reg [
    ⟨some 17, none, .mov (.tmp 15)⟩,
    ⟨some 18, none, .iaddr 8 (.tmp 13) (.tmp 15)⟩,
    ⟨some 19, none, .load false 8 (.tmp 18)⟩,
    ⟨some 6, none, .alloc true [.int .i64 0, .int .i64 0, .int .i64 0, .int .i64 0, .int .i64 0, .int .i64 0, .int .i64 0, .slice none 0 0]⟩,
    ⟨some 5, none, .mov (.tmp 17)⟩,
    ⟨none, none, .store 8 (.tmp 6) (.tmp 19)⟩]) (.seq (.reg [
    ⟨some 20, none, .faddr 0 (.tmp 6)⟩,
    ⟨some 21, none, .load true 1 (.tmp 20)⟩]) (.block 2 (.seq (.reg [
    ⟨some 23, none, .bin .eql (.tmp 21) (.const (.int .i64 0))⟩,
    ⟨some 22, none, .mov (.tmp 23)⟩]) (.cond (.tmp 22) (.seq (.reg [
    ⟨some 24, none, .load false 8 (.tmp 6)⟩,
    ⟨some 25, none, .call 141 [.tmp 24]⟩,
    ⟨some 26, none, .not (.tmp 25)⟩,
    ⟨some 27, none, .mov (.tmp 26)⟩,
    ⟨some 28, some (27, false), .faddr 6 (.tmp 6)⟩,
    ⟨some 29, some (27, false), .load true 1 (.tmp 28)⟩,
    ⟨some 30, some (27, false), .bin .neq (.tmp 29) (.const (.int .i64 0))⟩,
    ⟨some 31, none, .pick (.tmp 27) (.const (.bool true)) (.tmp 30)⟩]) (.cond (.tmp 31) (.seq (.reg [
    ⟨some 2, none, .mov (.const (.bool false))⟩]) (.ret)) (.skip))) (.seq (.reg [
    ⟨some 33, none, .bin .eql (.tmp 21) (.const (.int .i64 2))⟩,
    ⟨some 32, none, .mov (.tmp 33)⟩]) (.cond (.tmp 32) (.seq (.seq (.dreg 36 [
    ⟨some 34, none, .load false 8 (.tmp 6)⟩,
    ⟨some 35, none, .qcall 141 [.tmp 34]⟩,
    ⟨some 36, none, .not (.tmp 35)⟩,
    ⟨some 37, none, .mov (.tmp 36)⟩,
    ⟨some 38, some (37, false), .mov (.tmp 0)⟩,
    ⟨some 39, some (37, false), .nilCheck (.tmp 38)⟩,
    ⟨some 40, some (37, false), .faddr 5 (.tmp 39)⟩,
    ⟨some 41, some (37, false), .load true 1 (.tmp 40)⟩,
    ⟨some 42, some (37, false), .bin .lss (.tmp 41) (.const (.int .i64 4))⟩,
    ⟨some 43, none, .pick (.tmp 37) (.const (.bool true)) (.tmp 42)⟩,
    ⟨some 44, none, .mov (.tmp 43)⟩,
    ⟨some 45, some (44, false), .faddr 6 (.tmp 6)⟩,
    ⟨some 46, some (44, false), .load true 1 (.tmp 45)⟩,
    ⟨some 47, some (44, false), .mov (.tmp 5)⟩,
    ⟨some 48, some (44, false), .bin .sub (.tmp 47) (.const (.int .i64 1))⟩,
    ⟨some 49, some (44, false), .qcall 71 [.tmp 46, .const (.int .i64 0), .tmp 48]⟩,
    ⟨some 50, some (44, false), .not (.tmp 49)⟩,
    ⟨some 51, none, .pick (.tmp 44) (.const (.bool true)) (.tmp 50)⟩,
    ⟨some 52, none, .mov (.tmp 51)⟩,
    ⟨some 53, some (52, false), .mov (.tmp 0)⟩,
    ⟨some 54, some (52, false), .nilCheck (.tmp 53)⟩,
    ⟨some 55, some (52, false), .faddr 4 (.tmp 54)⟩,
    ⟨some 56, some (52, false), .load true 1 (.tmp 55)⟩,
    ⟨some 57, some (52, false), .faddr 6 (.tmp 6)⟩,
    ⟨some 58, some (52, false), .load true 1 (.tmp 57)⟩,
    ⟨some 59, some (52, false), .iaddr 8 (.tmp 56) (.tmp 58)⟩,
    ⟨some 60, some (52, false), .faddr 0 (.tmp 59)⟩,
    ⟨some 61, some (52, false), .load true 1 (.tmp 60)⟩,
    ⟨some 62, some (52, false), .bin .neq (.tmp 61) (.const (.int .i64 1))⟩,
    ⟨some 63, none, .pick (.tmp 52) (.const (.bool true)) (.tmp 62)⟩,
    ⟨some 64, none, .mov (.tmp 63)⟩,
    ⟨some 65, some (64, false), .mov (.tmp 4)⟩,
    ⟨some 66, some (64, false), .faddr 6 (.tmp 6)⟩,
    ⟨some 67, some (64, false), .load true 1 (.tmp 66)⟩,
    ⟨some 68, some (64, false), .look true (.bool false) false (.tmp 65) (.tmp 67)⟩,
    ⟨some 69, none, .pick (.tmp 64) (.const (.bool true)) (.tmp 68)⟩]) (.cond (.tmp 69) (.seq (.reg [
    ⟨some 2, none, .mov (.const (.bool false))⟩]) (.ret)) (.skip))) (.seq (.reg [
    ⟨some 70, none, .mov (.tmp 4)⟩,
    ⟨some 71, none, .faddr 6 (.tmp 6)⟩,
    ⟨some 72, none, .load true 1 (.tmp 71)⟩,
    ⟨none, none, .mupd (.tmp 70) (.tmp 72) (.const (.bool true))⟩]) (.seq (.reg [
    ⟨some 7, none, .mov (.const (.int .i64 0))⟩]) (.block 3 (.loop (.seq (.seq (.reg [
    ⟨some 73, none, .mov (.tmp 7)⟩,
    ⟨some 74, none, .faddr 6 (.tmp 6)⟩,
    ⟨some 75, none, .load true 1 (.tmp 74)⟩,
    ⟨some 76, none, .bin .lss (.tmp 73) (.tmp 75)⟩,
    ⟨some 77, none, .mov (.tmp 76)⟩,
    ⟨some 78, some (77, true), .mov (.tmp 0)⟩,
    ⟨some 79, some (77, true), .nilCheck (.tmp 78)⟩,
    ⟨some 80, some (77, true), .faddr 5 (.tmp 79)⟩,
    ⟨some 81, some (77, true), .load true 1 (.tmp 80)⟩,
    ⟨some 82, some (77, true), .bin .eql (.tmp 81) (.const (.int .i64 4))⟩,
    ⟨some 83, none, .pick (.tmp 77) (.tmp 82) (.const (.bool false))⟩]) (.cond (.tmp 83) (.skip) (.exit 3))) (.seq (.block 4 (.seq (.reg [
    ⟨some 86, none, .mov (.tmp 0)⟩,
    ⟨some 87, none, .nilCheck (.tmp 86)⟩,
    ⟨some 88, none, .faddr 4 (.tmp 87)⟩,
    ⟨some 89, none, .load true 1 (.tmp 88)⟩,
    ⟨some 90, none, .mov (.tmp 7)⟩,
    ⟨some 91, none, .iaddr 8 (.tmp 89) (.tmp 90)⟩,
    ⟨some 92, none, .faddr 0 (.tmp 91)⟩,
    ⟨some 93, none, .load true 1 (.tmp 92)⟩,
    ⟨some 94, none, .bin .eql (.tmp 93) (.const (.int .i64 0))⟩]) (.cond (.tmp 94) (.seq (.reg [
    ⟨some 2, none, .mov (.const (.bool false))⟩]) (.ret)) (.skip)))) (.reg [
    ⟨some 84, none, .mov (.tmp 7)⟩,
    ⟨some 85, none, .bin .add (.tmp 84) (.const (.int .i64 1))⟩,
    ⟨some 7, none, .mov (.tmp 85)⟩])))))))) (.seq (.reg [
    ⟨some 96, none, .bin .eql (.tmp 21) (.const (.int .i64 1))⟩,
    ⟨some 95, none, .mov (.tmp 96)⟩]) (.cond (.tmp 95) (.seq (.seq (.dreg 49 [
    ⟨some 97, none, .faddr 1 (.tmp 6)⟩,
    ⟨some 98, none, .load true 1 (.tmp 97)⟩,
    ⟨some 99, none, .qcall 71 [.tmp 98, .const (.int .i64 0), .const (.int .i64 255)]⟩,
    ⟨some 100, none, .not (.tmp 99)⟩,
    ⟨some 101, none, .mov (.tmp 100)⟩,
    ⟨some 102, some (101, false), .faddr 2 (.tmp 6)⟩,
    ⟨some 103, some (101, false), .load true 1 (.tmp 102)⟩,
    ⟨some 104, some (101, false), .qcall 71 [.tmp 103, .const (.int .i64 0), .const (.int .i64 3)]⟩,
    ⟨some 105, some (101, false), .not (.tmp 104)⟩,
    ⟨some 106, none, .pick (.tmp 101) (.const (.bool true)) (.tmp 105)⟩,
    ⟨some 107, none, .mov (.tmp 106)⟩,
    ⟨some 108, some (107, false), .faddr 3 (.tmp 6)⟩,
    ⟨some 109, some (107, false), .load true 1 (.tmp 108)⟩,
    ⟨some 110, some (107, false), .qcall 71 [.tmp 109, .const (.int .i64 0), .const (.int .i64 3)]⟩,
    ⟨some 111, some (107, false), .not (.tmp 110)⟩,
    ⟨some 112, none, .pick (.tmp 107) (.const (.bool true)) (.tmp 111)⟩,
    ⟨some 113, none, .mov (.tmp 112)⟩,
    ⟨some 114, some (113, false), .faddr 4 (.tmp 6)⟩,
    ⟨some 115, some (113, false), .load true 1 (.tmp 114)⟩,
    ⟨some 116, some (113, false), .mov (.tmp 0)⟩,
    ⟨some 117, some (113, false), .nilCheck (.tmp 116)⟩,
    ⟨some 118, some (113, false), .faddr 2 (.tmp 117)⟩,
    ⟨some 119, some (113, false), .load true 1 (.tmp 118)⟩,
    ⟨some 120, some (113, false), .qcall 71 [.tmp 115, .const (.int .i64 1), .tmp 119]⟩,
    ⟨some 121, some (113, false), .not (.tmp 120)⟩,
    ⟨some 122, none, .pick (.tmp 113) (.const (.bool true)) (.tmp 121)⟩,
    ⟨some 123, none, .mov (.tmp 122)⟩,
    ⟨some 124, some (123, false), .faddr 5 (.tmp 6)⟩,
    ⟨some 125, some (123, false), .load true 1 (.tmp 124)⟩,
    ⟨some 126, some (123, false), .qcall 71 [.tmp 125, .const (.int .i64 0), .const (.int .i64 2)]⟩,
    ⟨some 127, some (123, false), .not (.tmp 126)⟩,
    ⟨some 128, none, .pick (.tmp 123) (.const (.bool true)) (.tmp 127)⟩,
    ⟨some 129, none, .mov (.tmp 128)⟩,
    ⟨some 130, some (129, false), .faddr 6 (.tmp 6)⟩,
    ⟨some 131, some (129, false), .load true 1 (.tmp 130)⟩,
    ⟨some 132, some (129, false), .bin .neq (.tmp 131) (.const (.int .i64 0))⟩,
    ⟨some 133, none, .pick (.tmp 129) (.const (.bool true)) (.tmp 132)⟩,
    ⟨some 134, none, .mov (.tmp 133)⟩,
    ⟨some 135, some (134, false), .faddr 7 (.tmp 6)⟩,
    ⟨some 136, some (134, false), .load true 1 (.tmp 135)⟩,
    ⟨some 137, some (134, false), .lenS (.tmp 136)⟩,
    ⟨some 138, some (134, false), .bin .gtr (.tmp 137) (.const (.int .i64 200))⟩,
    ⟨some 139, none, .pick (.tmp 134) (.const (.bool true)) (.tmp 138)⟩,
    ⟨some 140, none, .mov (.tmp 139)⟩,
    ⟨some 141, some (140, false), .mov (.tmp 3)⟩,
    ⟨some 142, some (140, false), .faddr 4 (.tmp 6)⟩,
    ⟨some 143, some (140, false), .load true 1 (.tmp 142)⟩,
    ⟨some 144, some (140, false), .look true (.bool false) false (.tmp 141) (.tmp 143)⟩,
    ⟨some 145, none, .pick (.tmp 140) (.const (.bool true)) (.tmp 144)⟩]) (.cond (.tmp 145) (.seq (.reg [
    ⟨some 2, none, .mov (.const (.bool false))⟩]) (.ret)) (.skip))) (.reg [
    ⟨some 146, none, .mov (.tmp 3)⟩,
    ⟨some 147, none, .faddr 4 (.tmp 6)⟩,
    ⟨some 148, none, .load true 1 (.tmp 147)⟩,
    ⟨none, none, .mupd (.tmp 146) (.tmp 148) (.const (.bool true))⟩])) (.seq (.reg [
    ⟨some 2, none, .mov (.const (.bool false))⟩]) (.ret)))))))))))) (.reg [
    ⟨some 149, none, .bin .add (.tmp 15) (.const (.int .i64 1))⟩,
    ⟨some 15, none, .mov (.tmp 149)⟩]))))))) (.seq (.reg [
    ⟨some 2, none, .mov (.const (.bool true))⟩]) (.ret))))
theorem t96 : Try.f96.body.bind (trC e96) = some c96 := by kernel_rfl
theorem r96 : Try.f96.results.toList.mapM (trR Try.prog) = some [.tmp 2] := by kernel_rfl
theorem fn96 {args : List Value} {M : Mem} {post : Value → Mem → Prop} (hl : args.length ≤ 150) (h : VC e96 c96 (fnQ [.tmp 2] post) (initS args 150) M) : Fn Try.prog 96 args M post :=
  Fn.of' (E := e96) Try.func96 t96 rfl r96 mixed hl h
/-! (*impl.Heap).rule3 -/
noncomputable def e97 : Env := ⟨Try.prog, [5], 34, []⟩
noncomputable def c97 : C :=
  .seq (.reg [
    ⟨some 2, none, .mov (.const (.bool false))⟩]) (.seq (.reg [
    ⟨some 3, none, .mov (.const (.int .i64 0))⟩]) (.seq (.seq (.reg [
    ⟨some 6, none, .mov (.tmp 0)⟩,
    ⟨some 7, none, .nilCheck (.tmp 6)⟩,
    ⟨some 8, none, .faddr 4 (.tmp 7)⟩,
    ⟨some 9, none, .load true 1 (.tmp 8)⟩,
    ⟨some 10, none, .lenS (.tmp 9)⟩,
    ⟨some 11, none, .mov (.const (.int .i64 0))⟩]) (.block 0 (.loop (.seq (.reg [
    ⟨some 12, none, .bin .lss (.tmp 11) (.tmp 10)⟩]) (.seq (.cond (.tmp 12) (.skip) (.exit 0)) (.seq (.block 1 (.seq (.reg [
    ⟨some 13, none, .iaddr 8 (.tmp 9) (.tmp 11)⟩,
    ⟨some 14, none, .load false 8 (.tmp 13)⟩,
    ⟨some 5, none, .alloc true [.int .i64 0, .int .i64 0, .int .i64 0, .int .i64 0, .int .i64 0, .int .i64 0, .int .i64 0, .slice none 0 0]⟩,
    ⟨none, none, .store 8 (.tmp 5) (.tmp 14)⟩]) (.reg [
    ⟨some 15, none, .mov (.tmp 3)⟩,
    ⟨some 16, none, .load false 8 (.tmp 5)⟩,
    ⟨some 17, none, .call 142 [.tmp 16]⟩,
    ⟨some 18, none, .bin .add (.tmp 15) (.tmp 17)⟩,
    ⟨some 3, none, .mov (.tmp 18)⟩]))) (.reg [
    ⟨some 19, none, .bin .add (.tmp 11) (.const (.int .i64 1))⟩,
    ⟨some 11, none, .mov (.tmp 19)⟩]))))))) (.seq (.reg [
    ⟨some 20, none, .mov (.tmp 3)⟩,
    ⟨some 21, none, .mov (.tmp 0)⟩,
    ⟨some 22, none, .nilCheck (.tmp 21)⟩,
    ⟨some 23, none, .faddr 1 (.tmp 22)⟩,
    ⟨some 24, none, .load true 1 (.tmp 23)⟩,
    ⟨some 25, none, .bin .eql (.tmp 20) (.tmp 24)⟩,
    ⟨some 26, none, .mov (.tmp 25)⟩,
    ⟨some 27, some (26, true), .mov (.tmp 3)⟩,
    ⟨some 28, some (26, true), .mov (.tmp 0)⟩,
    ⟨some 29, some (26, true), .nilCheck (.tmp 28)⟩,
    ⟨some 30, some (26, true), .faddr 0 (.tmp 29)⟩,
    ⟨some 31, some (26, true), .load true 1 (.tmp 30)⟩,
    ⟨some 32, some (26, true), .bin .leq (.tmp 27) (.tmp 31)⟩,
    ⟨some 33, none, .pick (.tmp 26) (.tmp 32) (.const (.bool false))⟩,
    ⟨some 2, none, .mov (.tmp 33)⟩]) (.ret))))
theorem t97 : Try.f97.body.bind (trC e97) = some c97 := by kernel_rfl
theorem r97 : Try.f97.results.toList.mapM (trR Try.prog) = some [.tmp 2] := by kernel_rfl
theorem fn97 {args : List Value} {M : Mem} {post : Value → Mem → Prop} (hl : args.length ≤ 34) (h : VC e97 c97 (fnQ [.tmp 2] post) (initS args 34) M) : Fn Try.prog 97 args M post :=
  Fn.of' (E := e97) Try.func97 t97 rfl r97 mixed hl h
/-! (*impl.Heap).rule4 -/
noncomputable def e98 : Env := ⟨Try.prog, [4, 6, 8], 91, []⟩
noncomputable def c98 : C :=
  .seq (.reg [
    ⟨some 2, none, .mov (.const (.bool false))⟩]) (.seq (.seq (.reg [
    ⟨some 10, none, .mov (.tmp 0)⟩,
    ⟨some 11, none, .nilCheck (.tmp 10)⟩,
    ⟨some 12, none, .faddr 3 (.tmp 11)⟩,
    ⟨some 13, none, .load true 1 (.tmp 12)⟩,
    ⟨some 14, none, .lenS (.tmp 13)⟩,
    ⟨some 15, none, .mov (.const (.int .i64 0))⟩]) (.block 0 (.loop (.seq (.reg [
    ⟨some 16, none, .bin .lss (.tmp 15) (.tmp 14)⟩]) (.seq (.cond (.tmp 16) (.skip) (.exit 0)) (.seq (.block 1 (.seq (.reg [
    ⟨some 17, none, .iaddr 3 (.tmp 13) (.tmp 15)⟩,
    ⟨some 18, none, .load false 3 (.tmp 17)⟩,
    ⟨some 4, none, .alloc true [.int .i64 0, .int .i64 0, .int .i64 0]⟩,
    ⟨none, none, .store 3 (.tmp 4) (.tmp 18)⟩]) (.seq (.reg [
    ⟨some 19, none, .mov (.tmp 0)⟩,
    ⟨some 20, none, .load false 3 (.tmp 4)⟩,
    ⟨some 21, none, .call 106 [.tmp 19, .tmp 20]⟩,
    ⟨some 22, none, .not (.tmp 21)⟩,
    ⟨some 23, none, .mov (.tmp 22)⟩,
    ⟨some 24, some (23, false), .mov (.tmp 0)⟩,
    ⟨some 25, some (23, false), .load false 3 (.tmp 4)⟩,
    ⟨some 26, some (23, false), .call 143 [.tmp 24, .tmp 25, .const (.bool false)]⟩,
    ⟨some 27, some (23, false), .not (.tmp 26)⟩,
    ⟨some 28, none, .pick (.tmp 23) (.const (.bool true)) (.tmp 27)⟩]) (.cond (.tmp 28) (.seq (.reg [
    ⟨some 2, none, .mov (.const (.bool false))⟩]) (.ret)) (.skip))))) (.reg [
    ⟨some 29, none, .bin .add (.tmp 15) (.const (.int .i64 1))⟩,
    ⟨some 15, none, .mov (.tmp 29)⟩]))))))) (.seq (.seq (.reg [
    ⟨some 30, none, .mov (.tmp 0)⟩,
    ⟨some 31, none, .nilCheck (.tmp 30)⟩,
    ⟨some 32, none, .faddr 4 (.tmp 31)⟩,
    ⟨some 33, none, .load true 1 (.tmp 32)⟩,
    ⟨some 34, none, .lenS (.tmp 33)⟩,
    ⟨some 35, none, .mov (.const (.int .i64 0))⟩]) (.block 2 (.loop (.seq (.reg [
    ⟨some 36, none, .bin .lss (.tmp 35) (.tmp 34)⟩]) (.seq (.cond (.tmp 36) (.skip) (.exit 2)) (.seq (.block 3 (.seq (.reg [
    ⟨some 37, none, .mov (.tmp 35)⟩,
    ⟨some 38, none, .iaddr 8 (.tmp 33) (.tmp 35)⟩,
    ⟨some 39, none, .load false 8 (.tmp 38)⟩,
    ⟨some 6, none, .alloc true [.int .i64 0, .int .i64 0, .int .i64 0, .int .i64 0, .int .i64 0, .int .i64 0, .int .i64 0, .slice none 0 0]⟩,
    ⟨some 5, none, .mov (.tmp 37)⟩,
    ⟨none, none, .store 8 (.tmp 6) (.tmp 39)⟩]) (.seq (.seq (.reg [
    ⟨some 40, none, .mov (.tmp 0)⟩,
    ⟨some 41, none, .mov (.tmp 5)⟩,
    ⟨some 42, none, .call 144 [.tmp 40, .tmp 41]⟩,
    ⟨some 43, none, .mov (.tmp 42)⟩,
    ⟨some 44, some (43, true), .load false 8 (.tmp 6)⟩,
    ⟨some 45, some (43, true), .call 145 [.tmp 44]⟩,
    ⟨some 46, none, .pick (.tmp 43) (.tmp 45) (.const (.bool false))⟩]) (.cond (.tmp 46) (.seq (.reg [
    ⟨some 2, none, .mov (.const (.bool false))⟩]) (.ret)) (.skip))) (.seq (.reg [
    ⟨some 47, none, .faddr 7 (.tmp 6)⟩,
    ⟨some 48, none, .load true 1 (.tmp 47)⟩,
    ⟨some 49, none, .lenS (.tmp 48)⟩,
    ⟨some 50, none, .mov (.const (.int .i64 0))⟩]) (.block 4 (.loop (.seq (.reg [
    ⟨some 51, none, .bin .lss (.tmp 50) (.tmp 49)⟩]) (.seq (.cond (.tmp 51) (.skip) (.exit 4)) (.seq (.block 5 (.seq (.reg [
    ⟨some 52, none, .mov (.tmp 50)⟩,
    ⟨some 53, none, .iaddr 6 (.tmp 48) (.tmp 50)⟩,
    ⟨some 54, none, .load false 6 (.tmp 53)⟩,
    ⟨some 8, none, .alloc true [.int .i64 0, .int .i64 0, .int .i64 0, .int .i64 0, .int .i64 0, .int .i64 0]⟩,
    ⟨some 7, none, .mov (.tmp 52)⟩,
    ⟨none, none, .store 6 (.tmp 8) (.tmp 54)⟩]) (.seq (.seq (.reg [
    ⟨some 55, none, .mov (.tmp 0)⟩,
    ⟨some 56, none, .faddr 0 (.tmp 8)⟩,
    ⟨some 57, none, .load false 3 (.tmp 56)⟩,
    ⟨some 58, none, .call 106 [.tmp 55, .tmp 57]⟩,
    ⟨some 59, none, .not (.tmp 58)⟩,
    ⟨some 60, none, .mov (.tmp 59)⟩,
    ⟨some 61, some (60, false), .mov (.tmp 0)⟩,
    ⟨some 62, some (60, false), .faddr 3 (.tmp 8)⟩,
    ⟨some 63, some (60, false), .load false 3 (.tmp 62)⟩,
    ⟨some 64, some (60, false), .call 106 [.tmp 61, .tmp 63]⟩,
    ⟨some 65, some (60, false), .not (.tmp 64)⟩,
    ⟨some 66, none, .pick (.tmp 60) (.const (.bool true)) (.tmp 65)⟩]) (.cond (.tmp 66) (.seq (.reg [
    ⟨some 2, none, .mov (.const (.bool false))⟩]) (.ret)) (.skip))) (.seq (.seq (.reg [
    ⟨some 67, none, .mov (.tmp 0)⟩,
    ⟨some 68, none, .mov (.tmp 5)⟩,
    ⟨some 69, none, .call 144 [.tmp 67, .tmp 68]⟩]) (.cond (.tmp 69) (.exit 5) (.skip))) (.seq (.reg [
    ⟨some 70, none, .mov (.tmp 0)⟩,
    ⟨some 71, none, .mov (.tmp 5)⟩,
    ⟨some 72, none, .mov (.tmp 7)⟩,
    ⟨some 73, none, .call 146 [.tmp 70, .tmp 71, .tmp 72]⟩,
    ⟨some 74, none, .not (.tmp 73)⟩,
    ⟨some 9, none, .mov (.tmp 74)⟩]) (.seq (.reg [
    ⟨some 75, none, .mov (.tmp 0)⟩,
    ⟨some 76, none, .faddr 0 (.tmp 8)⟩,
    ⟨some 77, none, .load false 3 (.tmp 76)⟩,
    ⟨some 78, none, .mov (.tmp 9)⟩,
    ⟨some 79, none, .call 143 [.tmp 75, .tmp 77, .tmp 78]⟩,
    ⟨some 80, none, .not (.tmp 79)⟩,
    ⟨some 81, none, .mov (.tmp 80)⟩,
    ⟨some 82, some (81, false), .mov (.tmp 0)⟩,
    ⟨some 83, some (81, false), .faddr 3 (.tmp 8)⟩,
    ⟨some 84, some (81, false), .load false 3 (.tmp 83)⟩,
    ⟨some 85, some (81, false), .mov (.tmp 9)⟩,
    ⟨some 86, some (81, false), .call 143 [.tmp 82, .tmp 84, .tmp 85]⟩,
    ⟨some 87, some (81, false), .not (.tmp 86)⟩,
    ⟨some 88, none, .pick (.tmp 81) (.const (.bool true)) (.tmp 87)⟩]) (.cond (.tmp 88) (.seq (.reg [
    ⟨some 2, none, .mov (.const (.bool false))⟩]) (.ret)) (.skip)))))))) (.reg [
    ⟨some 89, none, .bin .add (.tmp 50) (.const (.int .i64 1))⟩,
    ⟨some 50, none, .mov (.tmp 89)⟩])))))))))) (.reg [
    ⟨some 90, none, .bin .add (.tmp 35) (.const (.int .i64 1))⟩,
    ⟨some 35, none, .mov (.tmp 90)⟩]))))))) (.seq (.reg [
    ⟨some 2, none, .mov (.const (.bool true))⟩]) (.ret))))
theorem t98 : Try.f98.body.bind (trC e98) = some c98 := by kernel_rfl
theorem r98 : Try.f98.results.toList.mapM (trR Try.prog) = some [.tmp 2] := by kernel_rfl
theorem fn98 {args : List Value} {M : Mem} {post : Value → Mem → Prop} (hl : args.length ≤ 91) (h : VC e98 c98 (fnQ [.tmp 2] post) (initS args 91) M) : Fn Try.prog 98 args M post :=
  Fn.of' (E := e98) Try.func98 t98 rfl r98 mixed hl h
/-! (*impl.Heap).rule5 -/
noncomputable def e99 : Env := ⟨Try.prog, [7, 9], 121, []⟩
noncomputable def c99 : C :=
  .seq (.reg [
    ⟨some 2, none, .mov (.const (.bool false))⟩]) (.seq (.seq (.reg [
    ⟨some 10, none, .mov (.tmp 0)⟩,
    ⟨some 11, none, .call 147 [.tmp 10]⟩]) (.cond (.tmp 11) (.seq (.reg [
    ⟨some 12, none, .mkmap⟩,
    ⟨some 3, none, .mov (.tmp 12)⟩]) (.seq (.seq (.reg [
    ⟨some 13, none, .mov (.tmp 0)⟩,
    ⟨some 14, none, .nilCheck (.tmp 13)⟩,
    ⟨some 15, none, .faddr 8 (.tmp 14)⟩,
    ⟨some 16, none, .load true 1 (.tmp 15)⟩,
    ⟨some 17, none, .lenS (.tmp 16)⟩,
    ⟨some 18, none, .mov (.const (.int .i64 0))⟩]) (.block 0 (.loop (.seq (.reg [
    ⟨some 19, none, .bin .lss (.tmp 18) (.tmp 17)⟩]) (.seq (.cond (.tmp 19) (.skip) (.exit 0)) (.seq (.block 1 (.seq (.reg [
    ⟨some 20, none, .iaddr 1 (.tmp 16) (.tmp 18)⟩,
    ⟨some 21, none, .load true 1 (.tmp 20)⟩,
    ⟨some 5, none, .mov (.tmp 21)⟩]) (.seq (.seq (.reg [
    ⟨some 22, none, .mov (.tmp 5)⟩,
    ⟨some 23, none, .mov (.tmp 0)⟩,
    ⟨some 24, none, .nilCheck (.tmp 23)⟩,
    ⟨some 25, none, .faddr 4 (.tmp 24)⟩,
    ⟨some 26, none, .load true 1 (.tmp 25)⟩,
    ⟨some 27, none, .lenS (.tmp 26)⟩,
    ⟨some 28, none, .bin .sub (.tmp 27) (.const (.int .i64 1))⟩,
    ⟨some 29, none, .call 71 [.tmp 22, .const (.int .i64 0), .tmp 28]⟩,
    ⟨some 30, none, .not (.tmp 29)⟩,
    ⟨some 31, none, .mov (.tmp 30)⟩,
    ⟨some 32, some (31, false), .mov (.tmp 3)⟩,
    ⟨some 33, some (31, false), .mov (.tmp 5)⟩,
    ⟨some 34, some (31, false), .look true (.bool false) false (.tmp 32) (.tmp 33)⟩,
    ⟨some 35, none, .pick (.tmp 31) (.const (.bool true)) (.tmp 34)⟩,
    ⟨some 36, none, .mov (.tmp 35)⟩,
    ⟨some 37, some (36, false), .mov (.tmp 0)⟩,
    ⟨some 38, some (36, false), .nilCheck (.tmp 37)⟩,
    ⟨some 39, some (36, false), .faddr 4 (.tmp 38)⟩,
    ⟨some 40, some (36, false), .load true 1 (.tmp 39)⟩,
    ⟨some 41, some (36, false), .mov (.tmp 5)⟩,
    ⟨some 42, some (36, false), .iaddr 8 (.tmp 40) (.tmp 41)⟩,
    ⟨some 43, some (36, false), .faddr 0 (.tmp 42)⟩,
    ⟨some 44, some (36, false), .load true 1 (.tmp 43)⟩,
    ⟨some 45, some (36, false), .bin .neq (.tmp 44) (.const (.int .i64 1))⟩,
    ⟨some 46, none, .pick (.tmp 36) (.const (.bool true)) (.tmp 45)⟩,
    ⟨some 47, none, .mov (.tmp 46)⟩,
    ⟨some 48, some (47, false), .mov (.tmp 0)⟩,
    ⟨some 49, some (47, false), .nilCheck (.tmp 48)⟩,
    ⟨some 50, some (47, false), .faddr 4 (.tmp 49)⟩,
    ⟨some 51, some (47, false), .load true 1 (.tmp 50)⟩,
    ⟨some 52, some (47, false), .mov (.tmp 5)⟩,
    ⟨some 53, some (47, false), .iaddr 8 (.tmp 51) (.tmp 52)⟩,
    ⟨some 54, some (47, false), .faddr 5 (.tmp 53)⟩,
    ⟨some 55, some (47, false), .load true 1 (.tmp 54)⟩,
    ⟨some 56, some (47, false), .bin .neq (.tmp 55) (.const (.int .i64 1))⟩,
    ⟨some 57, none, .pick (.tmp 47) (.const (.bool true)) (.tmp 56)⟩]) (.cond (.tmp 57) (.seq (.reg [
    ⟨some 2, none, .mov (.const (.bool false))⟩]) (.ret)) (.skip))) (.reg [
    ⟨some 58, none, .mov (.tmp 3)⟩,
    ⟨some 59, none, .mov (.tmp 5)⟩,
    ⟨none, none, .mupd (.tmp 58) (.tmp 59) (.const (.bool true))⟩])))) (.reg [
    ⟨some 60, none, .bin .add (.tmp 18) (.const (.int .i64 1))⟩,
    ⟨some 18, none, .mov (.tmp 60)⟩]))))))) (.seq (.seq (.reg [
    ⟨some 61, none, .mov (.tmp 0)⟩,
    ⟨some 62, none, .nilCheck (.tmp 61)⟩,
    ⟨some 63, none, .faddr 4 (.tmp 62)⟩,
    ⟨some 64, none, .load true 1 (.tmp 63)⟩,
    ⟨some 65, none, .lenS (.tmp 64)⟩,
    ⟨some 66, none, .mov (.const (.int .i64 0))⟩]) (.block 2 (.loop (.seq (.reg [
    ⟨some 67, none, .bin .lss (.tmp 66) (.tmp 65)⟩]) (.seq (.cond (.tmp 67) (.skip) (.exit 2)) (.seq (.block 3 (.seq (.reg [
    ⟨some 68, none, .mov (.tmp 66)⟩,
    ⟨some 69, none, .iaddr 8 (.tmp 64) (.tmp 66)⟩,
    ⟨some 70, none, .load false 8 (.tmp 69)⟩,
    ⟨some 7, none, .alloc true [.int .i64 0, .int .i64 0, .int .i64 0, .int .i64 0, .int .i64 0, .int .i64 0, .int .i64 0, .slice none 0 0]⟩,
    ⟨some 6, none, .mov (.tmp 68)⟩,
    ⟨none, none, .store 8 (.tmp 7) (.tmp 70)⟩]) (.seq (.reg [
    ⟨some 71, none, .faddr 5 (.tmp 7)⟩,
    ⟨some 72, none, .load true 1 (.tmp 71)⟩,
    ⟨some 73, none, .bin .eql (.tmp 72) (.const (.int .i64 1))⟩,
    ⟨some 74, none, .mov (.tmp 73)⟩,
    ⟨some 75, some (74, true), .mov (.tmp 3)⟩,
    ⟨some 76, some (74, true), .mov (.tmp 6)⟩,
    ⟨some 77, some (74, true), .look true (.bool false) false (.tmp 75) (.tmp 76)⟩,
    ⟨some 78, some (74, true), .not (.tmp 77)⟩,
    ⟨some 79, none, .pick (.tmp 74) (.tmp 78) (.const (.bool false))⟩]) (.cond (.tmp 79) (.seq (.reg [
    ⟨some 2, none, .mov (.const (.bool false))⟩]) (.ret)) (.skip))))) (.reg [
    ⟨some 80, none, .bin .add (.tmp 66) (.const (.int .i64 1))⟩,
    ⟨some 66, none, .mov (.tmp 80)⟩]))))))) (.seq (.reg [
    ⟨some 2, none, .mov (.const (.bool true))⟩]) (.ret))))) (.skip))) (.seq (.seq (.reg [
    ⟨some 81, none, .mov (.tmp 0)⟩,
    ⟨some 82, none, .nilCheck (.tmp 81)⟩,
    ⟨some 83, none, .faddr 4 (.tmp 82)⟩,
    ⟨some 84, none, .load true 1 (.tmp 83)⟩,
    ⟨some 85, none, .lenS (.tmp 84)⟩,
    ⟨some 86, none, .mov (.const (.int .i64 0))⟩]) (.block 4 (.loop (.seq (.reg [
    ⟨some 87, none, .bin .lss (.tmp 86) (.tmp 85)⟩]) (.seq (.cond (.tmp 87) (.skip) (.exit 4)) (.seq (.block 5 (.seq (.reg [
    ⟨some 88, none, .mov (.tmp 86)⟩,
    ⟨some 89, none, .iaddr 8 (.tmp 84) (.tmp 86)⟩,
    ⟨some 90, none, .load false 8 (.tmp 89)⟩,
    ⟨some 9, none, .alloc true [.int .i64 0, .int .i64 0, .int .i64 0, .int .i64 0, .int .i64 0, .int .i64 0, .int .i64 0, .slice none 0 0]⟩,
    ⟨some 8, none, .mov (.tmp 88)⟩,
    ⟨none, none, .store 8 (.tmp 9) (.tmp 90)⟩]) (.seq (.reg [
    ⟨some 91, none, .faddr 5 (.tmp 9)⟩,
    ⟨some 92, none, .load true 1 (.tmp 91)⟩,
    ⟨some 93, none, .bin .eql (.tmp 92) (.const (.int .i64 1))⟩,
    ⟨some 94, none, .mov (.tmp 93)⟩,
    ⟨some 95, some (94, false), .faddr 5 (.tmp 9)⟩,
    ⟨some 96, some (94, false), .load true 1 (.tmp 95)⟩,
    ⟨some 97, some (94, false), .bin .eql (.tmp 96) (.const (.int .i64 2))⟩,
    ⟨some 98, some (94, false), .mov (.tmp 97)⟩,
    ⟨some 99, some (98, true), .mov (.tmp 0)⟩,
    ⟨some 100, some (98, true), .nilCheck (.tmp 99)⟩,
    ⟨some 101, some (98, true), .faddr 5 (.tmp 100)⟩,
    ⟨some 102, some (98, true), .load true 1 (.tmp 101)⟩,
    ⟨some 103, some (98, true), .bin .neq (.tmp 102) (.const (.int .i64 3))⟩,
    ⟨some 104, some (98, true), .mov (.tmp 103)⟩,
    ⟨some 105, some (104, false), .mov (.tmp 8)⟩,
    ⟨some 106, some (104, false), .mov (.tmp 0)⟩,
    ⟨some 107, some (104, false), .nilCheck (.tmp 106)⟩,
    ⟨some 108, some (104, false), .faddr 6 (.tmp 107)⟩,
    ⟨some 109, some (104, false), .load true 1 (.tmp 108)⟩,
    ⟨some 110, some (104, false), .bin .lss (.tmp 105) (.tmp 109)⟩,
    ⟨some 111, some (98, true), .pick (.tmp 104) (.const (.bool true)) (.tmp 110)⟩,
    ⟨some 112, some (94, false), .pick (.tmp 98) (.tmp 111) (.const (.bool false))⟩,
    ⟨some 113, none, .pick (.tmp 94) (.const (.bool true)) (.tmp 112)⟩]) (.cond (.tmp 113) (.seq (.reg [
    ⟨some 2, none, .mov (.const (.bool false))⟩]) (.ret)) (.skip))))) (.reg [
    ⟨some 114, none, .bin .add (.tmp 86) (.const (.int .i64 1))⟩,
    ⟨some 86, none, .mov (.tmp 114)⟩]))))))) (.seq (.reg [
    ⟨some 115, none, .mov (.tmp 0)⟩,
    ⟨some 116, none, .nilCheck (.tmp 115)⟩,
    ⟨some 117, none, .faddr 8 (.tmp 116)⟩,
    ⟨some 118, none, .load true 1 (.tmp 117)⟩,
    ⟨some 119, none, .lenS (.tmp 118)⟩,
    ⟨some 120, none, .bin .eql (.tmp 119) (.const (.int .i64 0))⟩,
    ⟨some 2, none, .mov (.tmp 120)⟩]) (.ret))))
theorem t99 : Try.f99.body.bind (trC e99) = some c99 := by kernel_rfl
theorem r99 : Try.f99.results.toList.mapM (trR Try.prog) = some [.tmp 2] := by kernel_rfl
theorem fn99 {args : List Value} {M : Mem} {post : Value → Mem → Prop} (hl : args.length ≤ 121) (h : VC e99 c99 (fnQ [.tmp 2] post) (initS args 121) M) : Fn Try.prog 99 args M post :=
  Fn.of' (E := e99) Try.func99 t99 rfl r99 mixed hl h
/-! (*impl.Heap).rule6 -/
noncomputable def e100 : Env := ⟨Try.prog, [], 107, [(10, 19), (12, 24), (13, 17)]⟩
noncomputable def c100 : C :=
  .seq (.reg [
    ⟨some 2, none, .mov (.const (.bool false))⟩]) (.seq (.seq (.reg [
    ⟨some 3, none, .mov (.tmp 0)⟩,
    ⟨some 4, none, .nilCheck (.tmp 3)⟩,
    ⟨some 5, none, .faddr 5 (.tmp 4)⟩,
    ⟨some 6, none, .load true 1 (.tmp 5)⟩]) (.block 0 (.seq (.seq (.reg [
    ⟨some 8, none, .bin .eql (.tmp 6) (.const (.int .i64 0))⟩,
    ⟨some 7, none, .mov (.tmp 8)⟩]) (.cond (.tmp 7) (.skip) (.reg [
    ⟨some 9, none, .bin .eql (.tmp 6) (.const (.int .i64 4))⟩,
    ⟨some 7, none, .mov (.tmp 9)⟩]))) (.cond (.tmp 7) (.seq (.reg [
    ⟨some 10, none, .mov (.tmp 0)⟩,
    ⟨some 11, none, .nilCheck (.tmp 10)⟩,
    ⟨some 12, none, .faddr 6 (.tmp 11)⟩,
    ⟨some 13, none, .load true 1 (.tmp 12)⟩,
    ⟨some 14, none, .bin .eql (.tmp 13) (.const (.int .i64 0))⟩,
    ⟨some 15, none, .mov (.tmp 14)⟩,
    ⟨some 16, some (15, true), .mov (.tmp 0)⟩,
    ⟨some 17, some (15, true), .nilCheck (.tmp 16)⟩,
    ⟨some 18, some (15, true), .faddr 7 (.tmp 17)⟩,
    ⟨some 19, some (15, true), .load true 1 (.tmp 18)⟩,
    ⟨some 20, some (15, true), .bin .eql (.tmp 19) (.const (.int .i64 0))⟩,
    ⟨some 21, none, .pick (.tmp 15) (.tmp 20) (.const (.bool false))⟩,
    ⟨some 2, none, .mov (.tmp 21)⟩]) (.ret)) (.seq (.reg [
    ⟨some 23, none, .bin .eql (.tmp 6) (.const (.int .i64 2))⟩,
    ⟨some 22, none, .mov (.tmp 23)⟩]) (.cond (.tmp 22) (.seq (.seq (.reg [
    ⟨some 24, none, .mov (.tmp 0)⟩,
    ⟨some 25, none, .nilCheck (.tmp 24)⟩,
    ⟨some 26, none, .faddr 6 (.tmp 25)⟩,
    ⟨some 27, none, .load true 1 (.tmp 26)⟩,
    ⟨some 28, none, .bin .neq (.tmp 27) (.const (.int .i64 0))⟩]) (.cond (.tmp 28) (.seq (.reg [
    ⟨some 2, none, .mov (.const (.bool false))⟩]) (.ret)) (.skip))) (.seq (.seq (.reg [
    ⟨some 29, none, .mov (.tmp 0)⟩,
    ⟨some 30, none, .nilCheck (.tmp 29)⟩,
    ⟨some 31, none, .faddr 8 (.tmp 30)⟩,
    ⟨some 32, none, .load true 1 (.tmp 31)⟩,
    ⟨some 33, none, .lenS (.tmp 32)⟩,
    ⟨some 34, none, .bin .eql (.tmp 33) (.const (.int .i64 0))⟩]) (.cond (.tmp 34) (.seq (.reg [
    ⟨some 35, none, .mov (.tmp 0)⟩,
    ⟨some 36, none, .nilCheck (.tmp 35)⟩,
    ⟨some 37, none, .faddr 7 (.tmp 36)⟩,
    ⟨some 38, none, .load true 1 (.tmp 37)⟩,
    ⟨some 39, none, .bin .eql (.tmp 38) (.const (.int .i64 0))⟩,
    ⟨some 2, none, .mov (.tmp 39)⟩]) (.ret)) (.skip))) (.seq (.dreg 19 [
    ⟨some 40, none, .mov (.tmp 0)⟩,
    ⟨some 41, none, .nilCheck (.tmp 40)⟩,
    ⟨some 42, none, .faddr 7 (.tmp 41)⟩,
    ⟨some 43, none, .load true 1 (.tmp 42)⟩,
    ⟨some 44, none, .mov (.tmp 0)⟩,
    ⟨some 45, none, .nilCheck (.tmp 44)⟩,
    ⟨some 46, none, .faddr 4 (.tmp 45)⟩,
    ⟨some 47, none, .load true 1 (.tmp 46)⟩,
    ⟨some 48, none, .mov (.tmp 0)⟩,
    ⟨some 49, none, .nilCheck (.tmp 48)⟩,
    ⟨some 50, none, .faddr 8 (.tmp 49)⟩,
    ⟨some 51, none, .load true 1 (.tmp 50)⟩,
    ⟨some 52, none, .iaddr 1 (.tmp 51) (.const (.int .i64 0))⟩,
    ⟨some 53, none, .load true 1 (.tmp 52)⟩,
    ⟨some 54, none, .iaddr 8 (.tmp 47) (.tmp 53)⟩,
    ⟨some 55, none, .faddr 7 (.tmp 54)⟩,
    ⟨some 56, none, .load true 1 (.tmp 55)⟩,
    ⟨some 57, none, .lenS (.tmp 56)⟩,
    ⟨some 58, none, .bin .leq (.tmp 43) (.tmp 57)⟩,
    ⟨some 2, none, .mov (.tmp 58)⟩]) (.ret)))) (.seq (.reg [
    ⟨some 60, none, .bin .eql (.tmp 6) (.const (.int .i64 5))⟩,
    ⟨some 59, none, .mov (.tmp 60)⟩]) (.cond (.tmp 59) (.seq (.dreg 24 [
    ⟨some 61, none, .mov (.tmp 0)⟩,
    ⟨some 62, none, .nilCheck (.tmp 61)⟩,
    ⟨some 63, none, .faddr 6 (.tmp 62)⟩,
    ⟨some 64, none, .load true 1 (.tmp 63)⟩,
    ⟨some 65, none, .mov (.tmp 0)⟩,
    ⟨some 66, none, .nilCheck (.tmp 65)⟩,
    ⟨some 67, none, .faddr 4 (.tmp 66)⟩,
    ⟨some 68, none, .load true 1 (.tmp 67)⟩,
    ⟨some 69, none, .lenS (.tmp 68)⟩,
    ⟨some 70, none, .bin .lss (.tmp 64) (.tmp 69)⟩,
    ⟨some 71, none, .mov (.tmp 70)⟩,
    ⟨some 72, some (71, true), .mov (.tmp 0)⟩,
    ⟨some 73, some (71, true), .nilCheck (.tmp 72)⟩,
    ⟨some 74, some (71, true), .faddr 4 (.tmp 73)⟩,
    ⟨some 75, some (71, true), .load true 1 (.tmp 74)⟩,
    ⟨some 76, some (71, true), .mov (.tmp 0)⟩,
    ⟨some 77, some (71, true), .nilCheck (.tmp 76)⟩,
    ⟨some 78, some (71, true), .faddr 6 (.tmp 77)⟩,
    ⟨some 79, some (71, true), .load true 1 (.tmp 78)⟩,
    ⟨some 80, some (71, true), .iaddr 8 (.tmp 75) (.tmp 79)⟩,
    ⟨some 81, some (71, true), .faddr 0 (.tmp 80)⟩,
    ⟨some 82, some (71, true), .load true 1 (.tmp 81)⟩,
    ⟨some 83, some (71, true), .bin .eql (.tmp 82) (.const (.int .i64 1))⟩,
    ⟨some 84, none, .pick (.tmp 71) (.tmp 83) (.const (.bool false))⟩]) (.cond (.tmp 84) (.seq (.dreg 17 [
    ⟨some 85, none, .mov (.tmp 0)⟩,
    ⟨some 86, none, .nilCheck (.tmp 85)⟩,
    ⟨some 87, none, .faddr 7 (.tmp 86)⟩,
    ⟨some 88, none, .load true 1 (.tmp 87)⟩,
    ⟨some 89, none, .mov (.tmp 0)⟩,
    ⟨some 90, none, .nilCheck (.tmp 89)⟩,
    ⟨some 91, none, .faddr 4 (.tmp 90)⟩,
    ⟨some 92, none, .load true 1 (.tmp 91)⟩,
    ⟨some 93, none, .mov (.tmp 0)⟩,
    ⟨some 94, none, .nilCheck (.tmp 93)⟩,
    ⟨some 95, none, .faddr 6 (.tmp 94)⟩,
    ⟨some 96, none, .load true 1 (.tmp 95)⟩,
    ⟨some 97, none, .iaddr 8 (.tmp 92) (.tmp 96)⟩,
    ⟨some 98, none, .faddr 7 (.tmp 97)⟩,
    ⟨some 99, none, .load true 1 (.tmp 98)⟩,
    ⟨some 100, none, .lenS (.tmp 99)⟩,
    ⟨some 101, none, .bin .leq (.tmp 88) (.tmp 100)⟩,
    ⟨some 2, none, .mov (.tmp 101)⟩]) (.ret)) (.skip))) (.skip))))))))) (.seq (.reg [
    ⟨some 102, none, .mov (.tmp 0)⟩,
    ⟨some 103, none, .nilCheck (.tmp 102)⟩,
    ⟨some 104, none, .faddr 7 (.tmp 103)⟩,
    ⟨some 105, none, .load true 1 (.tmp 104)⟩,
    ⟨some 106, none, .bin .eql (.tmp 105) (.const (.int .i64 0))⟩,
    ⟨some 2, none, .mov (.tmp 106)⟩]) (.ret)))
theorem t100 : Try.f100.body.bind (trC e100) = some c100 := by kernel_rfl
theorem r100 : Try.f100.results.toList.mapM (trR Try.prog) = some [.tmp 2] := by kernel_rfl
theorem fn100 {args : List Value} {M : Mem} {post : Value → Mem → Prop} (hl : args.length ≤ 107) (h : VC e100 c100 (fnQ [.tmp 2] post) (initS args 107) M) : Fn Try.prog 100 args M post :=
  Fn.of' (E := e100) Try.func100 t100 rfl r100 mixed hl h
/-! (*impl.Heap).rule7 -/
noncomputable def e101 : Env := ⟨Try.prog, [4, 7], 97, []⟩
noncomputable def c101 : C :=
  .seq (.reg [
    ⟨some 2, none, .mov (.const (.bool false))⟩]) (.seq (.seq (.reg [
    ⟨some 8, none, .mov (.tmp 0)⟩,
    ⟨some 9, none, .call 147 [.tmp 8]⟩,
    ⟨some 10, none, .not (.tmp 9)⟩]) (.cond (.tmp 10) (.seq (.reg [
    ⟨some 2, none, .mov (.const (.bool true))⟩]) (.ret)) (.skip))) (.seq (.seq (.reg [
    ⟨some 11, none, .mov (.tmp 0)⟩,
    ⟨some 12, none, .nilCheck (.tmp 11)⟩,
    ⟨some 13, none, .faddr 4 (.tmp 12)⟩,
    ⟨some 14, none, .load true 1 (.tmp 13)⟩,
    ⟨some 15, none, .lenS (.tmp 14)⟩,
    ⟨some 16, none, .mov (.const (.int .i64 0))⟩]) (.block 0 (.loop (.seq (.reg [
    ⟨some 17, none, .bin .lss (.tmp 16) (.tmp 15)⟩]) (.seq (.cond (.tmp 17) (.skip) (.exit 0)) (.seq (.block 1 (.seq (.reg [
    ⟨some 18, none, .mov (.tmp 16)⟩,
    ⟨some 19, none, .iaddr 8 (.tmp 14) (.tmp 16)⟩,
    ⟨some 20, none, .load false 8 (.tmp 19)⟩,
    ⟨some 4, none, .alloc true [.int .i64 0, .int .i64 0, .int .i64 0, .int .i64 0, .int .i64 0, .int .i64 0, .int .i64 0, .slice none 0 0]⟩,
    ⟨some 3, none, .mov (.tmp 18)⟩,
    ⟨none, none, .store 8 (.tmp 4) (.tmp 20)⟩]) (.seq (.seq (.reg [
    ⟨some 21, none, .load false 8 (.tmp 4)⟩,
    ⟨some 22, none, .call 145 [.tmp 21]⟩,
    ⟨some 23, none, .mov (.tmp 22)⟩,
    ⟨some 24, some (23, true), .faddr 5 (.tmp 4)⟩,
    ⟨some 25, some (23, true), .load true 1 (.tmp 24)⟩,
    ⟨some 26, some (23, true), .bin .eql (.tmp 25) (.const (.int .i64 0))⟩,
    ⟨some 27, none, .pick (.tmp 23) (.tmp 26) (.const (.bool false))⟩,
    ⟨some 28, none, .mov (.tmp 27)⟩,
    ⟨some 29, some (28, true), .mov (.tmp 0)⟩,
    ⟨some 30, some (28, true), .nilCheck (.tmp 29)⟩,
    ⟨some 31, some (28, true), .faddr 5 (.tmp 30)⟩,
    ⟨some 32, some (28, true), .load true 1 (.tmp 31)⟩,
    ⟨some 33, some (28, true), .bin .eql (.tmp 32) (.const (.int .i64 2))⟩,
    ⟨some 34, some (28, true), .mov (.tmp 33)⟩,
    ⟨some 35, some (34, false), .mov (.tmp 3)⟩,
    ⟨some 36, some (34, false), .mov (.tmp 0)⟩,
    ⟨some 37, some (34, false), .nilCheck (.tmp 36)⟩,
    ⟨some 38, some (34, false), .faddr 6 (.tmp 37)⟩,
    ⟨some 39, some (34, false), .load true 1 (.tmp 38)⟩,
    ⟨some 40, some (34, false), .bin .lss (.tmp 35) (.tmp 39)⟩,
    ⟨some 41, some (28, true), .pick (.tmp 34) (.const (.bool true)) (.tmp 40)⟩,
    ⟨some 42, none, .pick (.tmp 28) (.tmp 41) (.const (.bool false))⟩]) (.cond (.tmp 42) (.seq (.reg [
    ⟨some 2, none, .mov (.const (.bool false))⟩]) (.ret)) (.skip))) (.seq (.reg [
    ⟨some 5, none, .mov (.const (.int .i64 0))⟩]) (.seq (.seq (.reg [
    ⟨some 43, none, .faddr 5 (.tmp 4)⟩,
    ⟨some 44, none, .load true 1 (.tmp 43)⟩,
    ⟨some 45, none, .bin .eql (.tmp 44) (.const (.int .i64 2))⟩]) (.cond (.tmp 45) (.reg [
    ⟨some 46, none, .faddr 7 (.tmp 4)⟩,
    ⟨some 47, none, .load true 1 (.tmp 46)⟩,
    ⟨some 48, none, .lenS (.tmp 47)⟩,
    ⟨some 5, none, .mov (.tmp 48)⟩]) (.seq (.reg [
    ⟨some 49, none, .mov (.tmp 0)⟩,
    ⟨some 50, none, .nilCheck (.tmp 49)⟩,
    ⟨some 51, none, .faddr 5 (.tmp 50)⟩,
    ⟨some 52, none, .load true 1 (.tmp 51)⟩,
    ⟨some 53, none, .bin .eql (.tmp 52) (.const (.int .i64 2))⟩,
    ⟨some 54, none, .mov (.tmp 53)⟩,
    ⟨some 55, some (54, true), .mov (.tmp 0)⟩,
    ⟨some 56, some (54, true), .nilCheck (.tmp 55)⟩,
    ⟨some 57, some (54, true), .faddr 8 (.tmp 56)⟩,
    ⟨some 58, some (54, true), .load true 1 (.tmp 57)⟩,
    ⟨some 59, some (54, true), .lenS (.tmp 58)⟩,
    ⟨some 60, some (54, true), .bin .gtr (.tmp 59) (.const (.int .i64 0))⟩,
    ⟨some 61, none, .pick (.tmp 54) (.tmp 60) (.const (.bool false))⟩,
    ⟨some 62, none, .mov (.tmp 61)⟩,
    ⟨some 63, some (62, true), .mov (.tmp 0)⟩,
    ⟨some 64, some (62, true), .nilCheck (.tmp 63)⟩,
    ⟨some 65, some (62, true), .faddr 8 (.tmp 64)⟩,
    ⟨some 66, some (62, true), .load true 1 (.tmp 65)⟩,
    ⟨some 67, some (62, true), .iaddr 1 (.tmp 66) (.const (.int .i64 0))⟩,
    ⟨some 68, some (62, true), .load true 1 (.tmp 67)⟩,
    ⟨some 69, some (62, true), .mov (.tmp 3)⟩,
    ⟨some 70, some (62, true), .bin .eql (.tmp 68) (.tmp 69)⟩,
    ⟨some 71, none, .pick (.tmp 62) (.tmp 70) (.const (.bool false))⟩]) (.cond (.tmp 71) (.reg [
    ⟨some 72, none, .mov (.tmp 0)⟩,
    ⟨some 73, none, .nilCheck (.tmp 72)⟩,
    ⟨some 74, none, .faddr 7 (.tmp 73)⟩,
    ⟨some 75, none, .load true 1 (.tmp 74)⟩,
    ⟨some 5, none, .mov (.tmp 75)⟩]) (.skip))))) (.seq (.reg [
    ⟨some 76, none, .faddr 7 (.tmp 4)⟩,
    ⟨some 77, none, .load true 1 (.tmp 76)⟩,
    ⟨some 78, none, .mov (.tmp 5)⟩,
    ⟨some 79, none, .slc 6 (.tmp 77) none (some (.tmp 78))⟩,
    ⟨some 80, none, .lenS (.tmp 79)⟩,
    ⟨some 81, none, .mov (.const (.int .i64 0))⟩]) (.block 2 (.loop (.seq (.reg [
    ⟨some 82, none, .bin .lss (.tmp 81) (.tmp 80)⟩]) (.seq (.cond (.tmp 82) (.skip) (.exit 2)) (.seq (.block 3 (.seq (.reg [
    ⟨some 83, none, .iaddr 6 (.tmp 79) (.tmp 81)⟩,
    ⟨some 84, none, .load false 6 (.tmp 83)⟩,
    ⟨some 7, none, .alloc true [.int .i64 0, .int .i64 0, .int .i64 0, .int .i64 0, .int .i64 0, .int .i64 0]⟩,
    ⟨none, none, .store 6 (.tmp 7) (.tmp 84)⟩]) (.seq (.reg [
    ⟨some 85, none, .mov (.tmp 0)⟩,
    ⟨some 86, none, .faddr 0 (.tmp 7)⟩,
    ⟨some 87, none, .load false 3 (.tmp 86)⟩,
    ⟨some 88, none, .call 148 [.tmp 85, .tmp 87]⟩,
    ⟨some 89, none, .mov (.tmp 88)⟩,
    ⟨some 90, some (89, false), .mov (.tmp 0)⟩,
    ⟨some 91, some (89, false), .faddr 3 (.tmp 7)⟩,
    ⟨some 92, some (89, false), .load false 3 (.tmp 91)⟩,
    ⟨some 93, some (89, false), .call 148 [.tmp 90, .tmp 92]⟩,
    ⟨some 94, none, .pick (.tmp 89) (.const (.bool true)) (.tmp 93)⟩]) (.cond (.tmp 94) (.seq (.reg [
    ⟨some 2, none, .mov (.const (.bool false))⟩]) (.ret)) (.skip))))) (.reg [
    ⟨some 95, none, .bin .add (.tmp 81) (.const (.int .i64 1))⟩,
    ⟨some 81, none, .mov (.tmp 95)⟩])))))))))))) (.reg [
    ⟨some 96, none, .bin .add (.tmp 16) (.const (.int .i64 1))⟩,
    ⟨some 16, none, .mov (.tmp 96)⟩]))))))) (.seq (.reg [
    ⟨some 2, none, .mov (.const (.bool true))⟩]) (.ret))))
theorem t101 : Try.f101.body.bind (trC e101) = some c101 := by kernel_rfl
theorem r101 : Try.f101.results.toList.mapM (trR Try.prog) = some [.tmp 2] := by kernel_rfl
theorem fn101 {args : List Value} {M : Mem} {post : Value → Mem → Prop} (hl : args.length ≤ 97) (h : VC e101 c101 (fnQ [.tmp 2] post) (initS args 97) M) : Fn Try.prog 101 args M post :=
  Fn.of' (E := e101) Try.func101 t101 rfl r101 mixed hl h
/-! (*impl.Heap).rule8 -/
noncomputable def e102 : Env := ⟨Try.prog, [], 33, []⟩
noncomputable def c102 : C :=
  .seq (.reg [
    ⟨some 2, none, .mov (.const (.bool false))⟩]) (.seq (.seq (.reg [
    ⟨some 4, none, .mov (.tmp 0)⟩,
    ⟨some 5, none, .nilCheck (.tmp 4)⟩,
    ⟨some 6, none, .faddr 6 (.tmp 5)⟩,
    ⟨some 7, none, .load true 1 (.tmp 6)⟩,
    ⟨some 3, none, .mov (.tmp 7)⟩]) (.block 0 (.loop (.seq (.seq (.reg [
    ⟨some 8, none, .mov (.tmp 0)⟩,
    ⟨some 9, none, .nilCheck (.tmp 8)⟩,
    ⟨some 10, none, .faddr 5 (.tmp 9)⟩,
    ⟨some 11, none, .load true 1 (.tmp 10)⟩,
    ⟨some 12, none, .bin .eql (.tmp 11) (.const (.int .i64 6))⟩,
    ⟨some 13, none, .mov (.tmp 12)⟩,
    ⟨some 14, some (13, true), .mov (.tmp 3)⟩,
    ⟨some 15, some (13, true), .mov (.tmp 0)⟩,
    ⟨some 16, some (13, true), .nilCheck (.tmp 15)⟩,
    ⟨some 17, some (13, true), .faddr 4 (.tmp 16)⟩,
    ⟨some 18, some (13, true), .load true 1 (.tmp 17)⟩,
    ⟨some 19, some (13, true), .lenS (.tmp 18)⟩,
    ⟨some 20, some (13, true), .bin .lss (.tmp 14) (.tmp 19)⟩,
    ⟨some 21, none, .pick (.tmp 13) (.tmp 20) (.const (.bool false))⟩]) (.cond (.tmp 21) (.skip) (.exit 0))) (.seq (.block 1 (.seq (.reg [
    ⟨some 24, none, .mov (.tmp 0)⟩,
    ⟨some 25, none, .nilCheck (.tmp 24)⟩,
    ⟨some 26, none, .faddr 4 (.tmp 25)⟩,
    ⟨some 27, none, .load true 1 (.tmp 26)⟩,
    ⟨some 28, none, .mov (.tmp 3)⟩,
    ⟨some 29, none, .iaddr 8 (.tmp 27) (.tmp 28)⟩,
    ⟨some 30, none, .faddr 0 (.tmp 29)⟩,
    ⟨some 31, none, .load true 1 (.tmp 30)⟩,
    ⟨some 32, none, .bin .eql (.tmp 31) (.const (.int .i64 2))⟩]) (.cond (.tmp 32) (.seq (.reg [
    ⟨some 2, none, .mov (.const (.bool false))⟩]) (.ret)) (.skip)))) (.reg [
    ⟨some 22, none, .mov (.tmp 3)⟩,
    ⟨some 23, none, .bin .add (.tmp 22) (.const (.int .i64 1))⟩,
    ⟨some 3, none, .mov (.tmp 23)⟩])))))) (.seq (.reg [
    ⟨some 2, none, .mov (.const (.bool true))⟩]) (.ret)))
theorem t102 : Try.f102.body.bind (trC e102) = some c102 := by kernel_rfl
theorem r102 : Try.f102.results.toList.mapM (trR Try.prog) = some [.tmp 2] := by kernel_rfl
theorem fn102 {args : List Value} {M : Mem} {post : Value → Mem → Prop} (hl : args.length ≤ 33) (h : VC e102 c102 (fnQ [.tmp 2] post) (initS args 33) M) : Fn Try.prog 102 args M post :=
  Fn.of' (E := e102) Try.func102 t102 rfl r102 mixed hl h
/-! impl.HeapOk -/
noncomputable def e33 : Env := ⟨Try.prog, [], 26, []⟩
noncomputable def c33 : C :=
  .seq (.reg [
    ⟨some 1, none, .box false (.tmp 0)⟩,
    ⟨some 2, none, .mov (.const (.int .i64 0))⟩]) (.seq (.seq (.reg [
    ⟨some 5, none, .mkfn 95 [.tmp 1] []⟩,
    ⟨some 6, none, .mkfn 96 [.tmp 1] []⟩,
    ⟨some 7, none, .mkfn 97 [.tmp 1] []⟩,
    ⟨some 8, none, .mkfn 98 [.tmp 1] []⟩,
    ⟨some 9, none, .mkfn 99 [.tmp 1] []⟩,
    ⟨some 10, none, .mkfn 100 [.tmp 1] []⟩,
    ⟨some 11, none, .mkfn 101 [.tmp 1] []⟩,
    ⟨some 12, none, .mkfn 102 [.tmp 1] []⟩,
    ⟨some 13, none, .bslice false 8 1 [.nilFunc, .nilFunc, .nilFunc, .nilFunc, .nilFunc, .nilFunc, .nilFunc, .nilFunc] [(0, 1, .tmp 5), (1, 1, .tmp 6), (2, 1, .tmp 7), (3, 1, .tmp 8), (4, 1, .tmp 9), (5, 1, .tmp 10), (6, 1, .tmp 11), (7, 1, .tmp 12)]⟩,
    ⟨some 14, none, .lenS (.tmp 13)⟩,
    ⟨some 15, none, .mov (.const (.int .i64 0))⟩]) (.block 0 (.loop (.seq (.reg [
    ⟨some 16, none, .bin .lss (.tmp 15) (.tmp 14)⟩]) (.seq (.cond (.tmp 16) (.skip) (.exit 0)) (.seq (.block 1 (.seq (.reg [
    ⟨some 17, none, .mov (.tmp 15)⟩,
    ⟨some 18, none, .iaddr 1 (.tmp 13) (.tmp 15)⟩,
    ⟨some 19, none, .load true 1 (.tmp 18)⟩,
    ⟨some 3, none, .mov (.tmp 17)⟩,
    ⟨some 4, none, .mov (.tmp 19)⟩]) (.seq (.reg [
    ⟨some 20, none, .mov (.tmp 4)⟩,
    ⟨some 21, none, .callv (.tmp 20) []⟩,
    ⟨some 22, none, .not (.tmp 21)⟩]) (.cond (.tmp 22) (.seq (.reg [
    ⟨some 23, none, .mov (.tmp 3)⟩,
    ⟨some 24, none, .bin .add (.tmp 23) (.const (.int .i64 1))⟩,
    ⟨some 2, none, .mov (.tmp 24)⟩]) (.ret)) (.skip))))) (.reg [
    ⟨some 25, none, .bin .add (.tmp 15) (.const (.int .i64 1))⟩,
    ⟨some 15, none, .mov (.tmp 25)⟩]))))))) (.seq (.reg [
    ⟨some 2, none, .mov (.const (.int .i64 0))⟩]) (.ret)))
theorem t33 : Try.f33.body.bind (trC e33) = some c33 := by kernel_rfl
theorem r33 : Try.f33.results.toList.mapM (trR Try.prog) = some [.tmp 2] := by kernel_rfl
theorem fn33 {args : List Value} {M : Mem} {post : Value → Mem → Prop} (hl : args.length ≤ 26) (h : VC e33 c33 (fnQ [.tmp 2] post) (initS args 26) M) : Fn Try.prog 33 args M post :=
  Fn.of' (E := e33) Try.func33 t33 rfl r33 mixed hl h
/-! (impl.Heap).sound -/
noncomputable def e105 : Env := ⟨Try.prog, [1], 6, []⟩
noncomputable def c105 : C :=
  .seq (.reg [
    ⟨some 1, none, .box true (.tmp 0)⟩,
    ⟨some 2, none, .mov (.const (.bool false))⟩]) (.seq (.reg [
    ⟨some 3, none, .load false 13 (.tmp 1)⟩,
    ⟨some 4, none, .call 33 [.tmp 3]⟩,
    ⟨some 5, none, .bin .eql (.tmp 4) (.const (.int .i64 0))⟩,
    ⟨some 2, none, .mov (.tmp 5)⟩]) (.ret))
theorem t105 : Try.f105.body.bind (trC e105) = some c105 := by kernel_rfl
theorem r105 : Try.f105.results.toList.mapM (trR Try.prog) = some [.tmp 2] := by kernel_rfl
theorem fn105 {args : List Value} {M : Mem} {post : Value → Mem → Prop} (hl : args.length ≤ 6) (h : VC e105 c105 (fnQ [.tmp 2] post) (initS args 6) M) : Fn Try.prog 105 args M post :=
  Fn.of' (E := e105) Try.func105 t105 rfl r105 mixed hl h
end Go.Proofs.Ytcmllambknfleaa.E
/- The program's third rule. Conditions: none. -/
set_option linter.unusedVariables false
set_option linter.unusedSimpArgs false
set_option maxHeartbeats 4000000
set_option maxRecDepth 100000
namespace Go.Proofs.Ytcmllambknfleaa.E
open Go
open Classical
theorem unitsN_nn (cs : List Cell) : 0 ≤ unitsN cs := by
  unfold unitsN
  induction cs with
  | nil => simp
  | cons c r ih =>
    simp only [List.map_cons, List.sum_cons]
    have : 0 ≤ c.units := by unfold Cell.units; split <;> omega
    omega
theorem unitsN_take {cs : List Cell} {i : Nat} {c : Cell} (h : cs[i]? = some c) : unitsN (cs.take (i + 1)) = unitsN (cs.take i) + c.units := by
  unfold unitsN
  rw [List.take_add_one, h]; simp
theorem unitsN_le {cs : List Cell} (h : ∀ c, c ∈ cs → c.pairs.length ≤ 200) : ∀ i : Nat, unitsN (cs.take i) ≤ 201 * i := by
  intro i
  induction i with
  | zero => simp [unitsN]
  | succ i ih =>
    cases hc : cs[i]? with
    | none => 
      have hl : cs.length ≤ i := List.getElem?_eq_none_iff.1 hc
      rw [List.take_of_length_le (by omega)] at ih ⊢; omega
    | some c =>
      rw [unitsN_take hc]
      have := h c (List.mem_of_getElem? hc)
      have : c.units ≤ 201 := by unfold Cell.units; split <;> omega
      omega
theorem R2.pl {H : Heap} (h : R2 H) {c : Cell} (hc : c ∈ H.cells) : c.pairs.length ≤ 200 := by
  obtain ⟨i, hi⟩ := List.getElem?_of_mem hc
  rcases h.each i c hi with h | h | h
  · rw [h.2.1.2.2.2.2.2]; simp
  · rw [h.2.1.2.2.2.2.2]; simp
  · exact h.2.2.2.2.2.2.2
theorem HX.at {x : HX} {i : Nat} (h : i < x.xs.length) : ∃ y, x.xs[i]? = some y ∧ x.H.cells[i]? = some y.c := by
  refine ⟨_, List.getElem?_eq_getElem h, ?_⟩
  simp [HX.H, List.getElem?_map, List.getElem?_eq_getElem h]
theorem rule3_q {m : Mem} {a : Nat} {x : HX} (h : Has m (hp a x)) (h1 : R1 x.H) (h2 : R2 x.H) : Qt Try.prog 97 [ptr a] m (.bool (decide (R3 x.H))) := by
  have hc := h1.cells
  have hr := h1.room
  have hl := x.len
  have hu := unitsN_le (cs := x.H.cells) (fun c => h2.pl)
  refine qt_of (fnA_of (fun h => fn97 (by simp) h) ?_)
  repeat' (first
    | (refine k_L ?_; first | (refine k_ad ?_; refine g_ad rfl rfl ?_) | (refine k_su ?_; refine g_su rfl rfl ?_) | (refine k_ml ?_; refine g_ml rfl rfl ?_) | refine a_p rfl ?_ | (refine k_g ?_; first | refine a_gy rfl rfl ?_ | refine a_gn rfl rfl ?_ | refine a_gu rfl ?_ | (refine a_gd rfl (fun hb => ?_) (fun hb => ?_) <;> try (exfalso; omega)) | (refine a_ge rfl (fun hb => ?_) (fun hb => ?_) <;> try (exfalso; omega)) | (refine a_gne rfl (fun hb => ?_) (fun hb => ?_) <;> try (exfalso; omega)) | (refine a_gnd rfl (fun hb => ?_) (fun hb => ?_) <;> try (exfalso; omega))) | (refine k_l ?_; first | refine g_l rfl ?_) | (refine k_i ?_; refine g_i rfl rfl ?_) | (refine k_ls ?_; refine g_ls rfl ?_) | (refine k_st ?_; first | refine g_st rfl rfl rfl rfl ?_ | refine g_sw rfl rfl rfl rfl (Nat.le_of_ble_eq_true rfl) ?_) | (refine k_al ?_; refine a_al ?_) | (refine k_bx ?_; refine a_bx rfl rfl ?_) | (refine k_bl ?_; refine a_bl rfl ?_) | (refine k_p ?_; first | (refine a_pd rfl (fun hb => ?_) (fun hb => ?_) <;> try (exfalso; omega)) | (refine a_pe rfl (fun hb => ?_) (fun hb => ?_) <;> try (exfalso; omega)) | (refine a_pne rfl (fun hb => ?_) (fun hb => ?_) <;> try (exfalso; omega)) | (refine a_pnd rfl (fun hb => ?_) (fun hb => ?_) <;> try (exfalso; omega))))
    | refine a_n ?_
    | (refine k_V ?_; first | refine v_rv ?_ | refine v_seq ?_ | refine v_reg ?_ | refine v_dreg ?_ | refine v_zreg ?_ | refine v_bs ?_ | refine v_br ?_ | refine v_bd ?_ | refine v_bc ?_ | refine v_bk ?_ | refine v_bb ?_ | refine v_ret ?_ | refine v_exit ?_ | refine v_skip ?_ | refine v_ct rfl ?_ | refine v_cf rfl ?_ | (refine v_cd rfl (fun hb => ?_) (fun hb => ?_) <;> try (exfalso; omega)) | (refine v_ce rfl (fun hb => ?_) (fun hb => ?_) <;> try (exfalso; omega)) | (refine v_cn rfl (fun hb => ?_) (fun hb => ?_) <;> try (exfalso; omega)) | (refine v_cnd rfl (fun hb => ?_) (fun hb => ?_) <;> try (exfalso; omega)))
    | refine s_n ?_
    | refine s_r ?_
    | refine s_e ?_
    | refine b_n ?_
    | refine b_r ?_
    | refine b_e ?_
    | refine b_o rfl ?_
    | refine r_rt ?_
    | refine r_bk rfl ?_
    | refine r_ex rfl rfl ?_
    | refine sk_zero ?_
    | refine sk_succ ?_
    | refine wk_nil ?_
    | refine wk_cons ?_)
  refine g_range x.xs.length (fun n : Int => [(0, .v (ptr a)), (3, .v (.int .i64 n)), (9, .v (.slice x.cd.a x.xs.length x.cd.cap))]) (fun _ => [ro m]) (fun i n => n = unitsN (x.H.cells.take i)) 0 rfl (fun i n hi hn => ?_) (fun n hn => ?_)
  · obtain ⟨y, gy, gc⟩ := HX.at hi
    have hu1 := hu i
    have hu2 := hu (i + 1)
    have hu3 := unitsN_nn (x.H.cells.take i)
    rw [unitsN_take gc] at hu2
    have hp := h2.pl (List.mem_of_getElem? gc)
    have hu4 : 0 ≤ y.c.units := by unfold Cell.units; split <;> omega
    repeat' (first
      | (refine k_L ?_; first | (refine k_ad ?_; refine g_ad rfl rfl ?_) | (refine k_su ?_; refine g_su rfl rfl ?_) | (refine k_ml ?_; refine g_ml rfl rfl ?_) | refine a_p rfl ?_ | (refine k_g ?_; first | refine a_gy rfl rfl ?_ | refine a_gn rfl rfl ?_ | refine a_gu rfl ?_ | (refine a_gd rfl (fun hb => ?_) (fun hb => ?_) <;> try (exfalso; omega)) | (refine a_ge rfl (fun hb => ?_) (fun hb => ?_) <;> try (exfalso; omega)) | (refine a_gne rfl (fun hb => ?_) (fun hb => ?_) <;> try (exfalso; omega)) | (refine a_gnd rfl (fun hb => ?_) (fun hb => ?_) <;> try (exfalso; omega))) | (refine k_l ?_; first | refine g_l rfl ?_) | (refine k_i ?_; refine g_i rfl rfl ?_) | (refine k_ls ?_; refine g_ls rfl ?_) | (refine k_st ?_; first | refine g_st rfl rfl rfl rfl ?_ | refine g_sw rfl rfl rfl rfl (Nat.le_of_ble_eq_true rfl) ?_) | (refine k_al ?_; refine a_al ?_) | (refine k_bx ?_; refine a_bx rfl rfl ?_) | (refine k_bl ?_; refine a_bl rfl ?_) | (refine k_q ?_; first | refine a_q rfl (fun m hm => units_q (y := y) (by omega)) ?_) | (refine k_c ?_; first | refine a_cq rfl (fun m hm => units_q (y := y) (by omega)) ?_) | (refine k_p ?_; first | (refine a_pd rfl (fun hb => ?_) (fun hb => ?_) <;> try (exfalso; omega)) | (refine a_pe rfl (fun hb => ?_) (fun hb => ?_) <;> try (exfalso; omega)) | (refine a_pne rfl (fun hb => ?_) (fun hb => ?_) <;> try (exfalso; omega)) | (refine a_pnd rfl (fun hb => ?_) (fun hb => ?_) <;> try (exfalso; omega))))
      | refine a_n ?_
      | (refine k_V ?_; first | refine v_rv ?_ | refine v_seq ?_ | refine v_reg ?_ | refine v_dreg ?_ | refine v_zreg ?_ | refine v_bs ?_ | refine v_br ?_ | refine v_bd ?_ | refine v_bc ?_ | refine v_bk ?_ | refine v_bb ?_ | refine v_ret ?_ | refine v_exit ?_ | refine v_skip ?_ | refine v_ct rfl ?_ | refine v_cf rfl ?_ | (refine v_cd rfl (fun hb => ?_) (fun hb => ?_) <;> try (exfalso; omega)) | (refine v_ce rfl (fun hb => ?_) (fun hb => ?_) <;> try (exfalso; omega)) | (refine v_cn rfl (fun hb => ?_) (fun hb => ?_) <;> try (exfalso; omega)) | (refine v_cnd rfl (fun hb => ?_) (fun hb => ?_) <;> try (exfalso; omega)))
      | refine s_n ?_
      | refine s_r ?_
      | refine s_e ?_
      | refine b_n ?_
      | refine b_r ?_
      | refine b_e ?_
      | refine b_o rfl ?_
      | refine r_rt ?_
      | refine r_bk rfl ?_
      | refine r_ex rfl rfl ?_
      | refine sk_zero ?_
      | refine sk_succ ?_
      | refine wk_nil ?_
      | refine wk_cons ?_)
    exact r_nx (n + y.c.units) (by rw [unitsN_take gc, hn])
  · rw [List.take_of_length_le (by omega)] at hn
    subst hn
    repeat' (first
      | (refine k_L ?_; first | (refine k_ad ?_; refine g_ad rfl rfl ?_) | (refine k_su ?_; refine g_su rfl rfl ?_) | (refine k_ml ?_; refine g_ml rfl rfl ?_) | refine a_p rfl ?_ | (refine k_g ?_; first | refine a_gy rfl rfl ?_ | refine a_gn rfl rfl ?_ | refine a_gu rfl ?_ | (refine a_gd rfl (fun hb => ?_) (fun hb => ?_) <;> try (exfalso; omega)) | (refine a_ge rfl (fun hb => ?_) (fun hb => ?_) <;> try (exfalso; omega)) | (refine a_gne rfl (fun hb => ?_) (fun hb => ?_) <;> try (exfalso; omega)) | (refine a_gnd rfl (fun hb => ?_) (fun hb => ?_) <;> try (exfalso; omega))) | (refine k_l ?_; first | refine g_l rfl ?_) | (refine k_i ?_; refine g_i rfl rfl ?_) | (refine k_ls ?_; refine g_ls rfl ?_) | (refine k_st ?_; first | refine g_st rfl rfl rfl rfl ?_ | refine g_sw rfl rfl rfl rfl (Nat.le_of_ble_eq_true rfl) ?_) | (refine k_al ?_; refine a_al ?_) | (refine k_bx ?_; refine a_bx rfl rfl ?_) | (refine k_bl ?_; refine a_bl rfl ?_) | (refine k_p ?_; first | (refine a_pd rfl (fun hb => ?_) (fun hb => ?_) <;> try (exfalso; omega)) | (refine a_pe rfl (fun hb => ?_) (fun hb => ?_) <;> try (exfalso; omega)) | (refine a_pne rfl (fun hb => ?_) (fun hb => ?_) <;> try (exfalso; omega)) | (refine a_pnd rfl (fun hb => ?_) (fun hb => ?_) <;> try (exfalso; omega))))
      | refine a_n ?_
      | (refine k_V ?_; first | refine v_rv ?_ | refine v_seq ?_ | refine v_reg ?_ | refine v_dreg ?_ | refine v_zreg ?_ | refine v_bs ?_ | refine v_br ?_ | refine v_bd ?_ | refine v_bc ?_ | refine v_bk ?_ | refine v_bb ?_ | refine v_ret ?_ | refine v_exit ?_ | refine v_skip ?_ | refine v_ct rfl ?_ | refine v_cf rfl ?_ | (refine v_cd rfl (fun hb => ?_) (fun hb => ?_) <;> try (exfalso; omega)) | (refine v_ce rfl (fun hb => ?_) (fun hb => ?_) <;> try (exfalso; omega)) | (refine v_cn rfl (fun hb => ?_) (fun hb => ?_) <;> try (exfalso; omega)) | (refine v_cnd rfl (fun hb => ?_) (fun hb => ?_) <;> try (exfalso; omega)))
      | refine s_n ?_
      | refine s_r ?_
      | refine s_e ?_
      | refine b_n ?_
      | refine b_r ?_
      | refine b_e ?_
      | refine b_o rfl ?_
      | refine r_rt ?_
      | refine r_bk rfl ?_
      | refine r_ex rfl rfl ?_
      | refine sk_zero ?_
      | refine sk_succ ?_
      | refine wk_nil ?_
      | refine wk_cons ?_)
    all_goals refine fa_r (fun _ _ => rfl) (Ent.refl _) ⟨bool_dec ?_, rfl⟩
    all_goals simp_all [R3, HX.hdr, HX.H]
    all_goals trace_state
end Go.Proofs.Ytcmllambknfleaa.E
/- The program's rules 1, 6 and 8. Conditions: none. -/
set_option linter.unusedVariables false
set_option linter.unusedSimpArgs false
set_option maxHeartbeats 4000000
set_option maxRecDepth 100000
namespace Go.Proofs.Ytcmllambknfleaa.E
open Go
open Classical
theorem ret_t {p : Prop} {_ : Decidable p} (h : p) : Value.bool true = .bool (decide p) := by rw [decide_eq_true h]
theorem ret_f {p : Prop} {_ : Decidable p} (h : ¬ p) : Value.bool false = .bool (decide p) := by rw [decide_eq_false h]
theorem Has.lens {m : Mem} {a : Nat} {x : HX} (h : Has m (hp a x)) : x.regs.length ≤ 140737488355328 ∧ x.xs.length ≤ 140737488355328 ∧ x.gray.length ≤ 140737488355328 := by
  obtain ⟨b, l, s⟩ := h
  refine ⟨(kn_t (kn_h bd_sl) : Kn (hp a x) _).out b s, (kn_t (kn_t (kn_h kb_cl)) : Kn (hp a x) _).out b s, (kn_t (kn_t (kn_t (kn_h bd_sl))) : Kn (hp a x) _).out b s⟩
theorem R1_iff (H : Heap) : R1 H ↔ ((1 ≤ H.room ∧ H.room ≤ 4000) ∧ H.regs.length = 16 ∧ (H.cells.length : Int) ≤ 2 * H.room ∧ H.gray.length ≤ H.cells.length ∧ (0 ≤ H.born ∧ H.born ≤ 1000000000) ∧ (0 ≤ H.rounds ∧ H.rounds ≤ 1000000000) ∧ (0 ≤ H.forced ∧ H.forced ≤ 1000000000) ∧ (0 ≤ H.per ∧ H.per ≤ 64) ∧ (0 ≤ H.start ∧ H.start ≤ 4000) ∧ (0 ≤ H.phase ∧ H.phase ≤ 6) ∧ (0 ≤ H.hand ∧ H.hand ≤ H.cells.length) ∧ (0 ≤ H.sub ∧ H.sub ≤ 200)) :=
  ⟨fun ⟨a, b, c, d, e, f, g, h, i, j, k, l⟩ => ⟨a, b, c, d, e, f, g, h, i, j, k, l⟩, fun ⟨a, b, c, d, e, f, g, h, i, j, k, l⟩ => ⟨a, b, c, d, e, f, g, h, i, j, k, l⟩⟩
theorem rule1_q {m : Mem} {a : Nat} {x : HX} (h : Has m (hp a x)) : Qt Try.prog 95 [ptr a] m (.bool (decide (R1 x.H))) := by
  have hb := h.lens
  refine qt_of (fnA_of (fun h => fn95 (by simp) h) ?_)
  repeat' (first
    | (refine k_L ?_; first | (refine k_ad ?_; refine g_ad rfl rfl ?_) | (refine k_su ?_; refine g_su rfl rfl ?_) | (refine k_ml ?_; refine g_ml rfl rfl ?_) | refine a_p rfl ?_ | (refine k_g ?_; first | refine a_gy rfl rfl ?_ | refine a_gn rfl rfl ?_ | refine a_gu rfl ?_ | (refine a_gd rfl (fun hb => ?_) (fun hb => ?_) <;> try (exfalso; omega)) | (refine a_ge rfl (fun hb => ?_) (fun hb => ?_) <;> try (exfalso; omega)) | (refine a_gne rfl (fun hb => ?_) (fun hb => ?_) <;> try (exfalso; omega)) | (refine a_gnd rfl (fun hb => ?_) (fun hb => ?_) <;> try (exfalso; omega))) | (refine k_l ?_; first | refine g_l rfl ?_) | (refine k_i ?_; refine g_i rfl rfl ?_) | (refine k_ls ?_; refine g_ls rfl ?_) | (refine k_st ?_; first | refine g_st rfl rfl rfl rfl ?_ | refine g_sw rfl rfl rfl rfl (Nat.le_of_ble_eq_true rfl) ?_) | (refine k_al ?_; refine a_al ?_) | (refine k_bx ?_; refine a_bx rfl rfl ?_) | (refine k_bl ?_; refine a_bl rfl ?_) | (refine k_q ?_; first | refine a_q rfl (fun m hm => impl.withinQ) ?_) | (refine k_c ?_; first | refine a_cq rfl (fun m hm => impl.withinQ) ?_) | (refine k_p ?_; first | (refine a_pd rfl (fun hb => ?_) (fun hb => ?_) <;> try (exfalso; omega)) | (refine a_pe rfl (fun hb => ?_) (fun hb => ?_) <;> try (exfalso; omega)) | (refine a_pne rfl (fun hb => ?_) (fun hb => ?_) <;> try (exfalso; omega)) | (refine a_pnd rfl (fun hb => ?_) (fun hb => ?_) <;> try (exfalso; omega))) | (refine a_ml rfl rfl (by simp only [HX.hdr, Hdr.s_room, Hdr.s_used, Hdr.s_born, Hdr.s_phase, Hdr.s_hand, Hdr.s_sub, Hdr.s_per, Hdr.s_start, Hdr.s_rounds, Hdr.s_forced, Hdr.s_rd, Hdr.s_cd, Hdr.s_gd] at *; omega) ?_))
    | refine a_n ?_
    | (refine k_V ?_; first | refine v_rv ?_ | refine v_seq ?_ | refine v_reg ?_ | refine v_dreg ?_ | refine v_zreg ?_ | refine v_bs ?_ | refine v_br ?_ | refine v_bd ?_ | refine v_bc ?_ | refine v_bk ?_ | refine v_bb ?_ | refine v_ret ?_ | refine v_exit ?_ | refine v_skip ?_ | refine v_ct rfl ?_ | refine v_cf rfl ?_ | (refine v_cd rfl (fun hb => ?_) (fun hb => ?_) <;> try (exfalso; omega)) | (refine v_ce rfl (fun hb => ?_) (fun hb => ?_) <;> try (exfalso; omega)) | (refine v_cn rfl (fun hb => ?_) (fun hb => ?_) <;> try (exfalso; omega)) | (refine v_cnd rfl (fun hb => ?_) (fun hb => ?_) <;> try (exfalso; omega)))
    | refine s_n ?_
    | refine s_r ?_
    | refine s_e ?_
    | refine b_n ?_
    | refine b_r ?_
    | refine b_e ?_
    | refine b_o rfl ?_
    | refine r_rt ?_
    | refine r_bk rfl ?_
    | refine r_ex rfl rfl ?_
    | refine sk_zero ?_
    | refine sk_succ ?_
    | refine wk_nil ?_
    | refine wk_cons ?_)
  all_goals refine fa_r (fun _ _ => rfl) (Ent.refl _) ⟨bool_dec ?_, rfl⟩
  all_goals (rw [R1_iff]; (try simp only [decide_eq_true_eq]); simp only [HX.hdr, Hdr.s_room, Hdr.s_used, Hdr.s_born, Hdr.s_phase, Hdr.s_hand, Hdr.s_sub, Hdr.s_per, Hdr.s_start, Hdr.s_rounds, Hdr.s_forced, Hdr.s_rd, Hdr.s_cd, Hdr.s_gd, HX.H, List.length_map] at *)
  all_goals simp_all
  all_goals omega
/-- the cell at a place that the heap has -/
theorem HX.atI {x : HX} {i : Int} (h0 : 0 ≤ i) (h : i < x.xs.length) : ∃ y, x.xs[i.toNat]? = some y ∧ x.H.getC i = y.c := by
  obtain ⟨y, h1, h2⟩ := HX.at (x := x) (i := i.toNat) (by omega)
  refine ⟨y, h1, ?_⟩
  unfold Heap.getC
  rw [List.getD_eq_getElem?_getD, h2]; rfl
end Go.Proofs.Ytcmllambknfleaa.E
/- The program's rule 6. Conditions: none. -/
set_option linter.unusedVariables false
set_option linter.unusedSimpArgs false
set_option maxHeartbeats 4000000
set_option maxRecDepth 100000
namespace Go.Proofs.Ytcmllambknfleaa.E
open Go
open Classical
theorem rule6_q {m : Mem} {a : Nat} {x : HX} (h : Has m (hp a x)) (h1 : R1 x.H) (h5 : R5 x.H) : Qt Try.prog 100 [ptr a] m (.bool (decide (R6 x.H))) := by
  have hb := h.lens
  have hh := h1.hand
  have hl := x.len
  refine qt_of (fnA_of (fun h => fn100 (by simp) h) ?_)
  by_cases hp2 : x.phase = 2
  · have hm := (h5.mark (.inr hp2)).2.1
    have hp2' : x.hdr.phase = 2 := hp2
    cases hg : x.gray with
    | nil =>
      have hgl : (x.hdr.ng : Int) = 0 := by simp [HX.hdr, hg]
      have hgl2 : x.gray.length = 0 := by simp [hg]
      have hg' : x.H.gray = [] := hg
      repeat' (first
        | (refine k_L ?_; first | (refine k_ad ?_; refine g_ad rfl rfl ?_) | (refine k_su ?_; refine g_su rfl rfl ?_) | (refine k_ml ?_; refine g_ml rfl rfl ?_) | refine a_p rfl ?_ | (refine k_g ?_; first | refine a_gy rfl rfl ?_ | refine a_gn rfl rfl ?_ | refine a_gu rfl ?_ | (refine a_gd rfl (fun hb => ?_) (fun hb => ?_) <;> try (exfalso; omega)) | (refine a_ge rfl (fun hb => ?_) (fun hb => ?_) <;> try (exfalso; omega)) | (refine a_gne rfl (fun hb => ?_) (fun hb => ?_) <;> try (exfalso; omega)) | (refine a_gnd rfl (fun hb => ?_) (fun hb => ?_) <;> try (exfalso; omega))) | (refine k_l ?_; first | refine g_l rfl ?_) | (refine k_i ?_; refine g_i rfl rfl ?_) | (refine k_ls ?_; refine g_ls rfl ?_) | (refine k_st ?_; first | refine g_st rfl rfl rfl rfl ?_ | refine g_sw rfl rfl rfl rfl (Nat.le_of_ble_eq_true rfl) ?_) | (refine k_al ?_; refine a_al ?_) | (refine k_bx ?_; refine a_bx rfl rfl ?_) | (refine k_bl ?_; refine a_bl rfl ?_) | (refine k_p ?_; first | (refine a_pd rfl (fun hb => ?_) (fun hb => ?_) <;> try (exfalso; omega)) | (refine a_pe rfl (fun hb => ?_) (fun hb => ?_) <;> try (exfalso; omega)) | (refine a_pne rfl (fun hb => ?_) (fun hb => ?_) <;> try (exfalso; omega)) | (refine a_pnd rfl (fun hb => ?_) (fun hb => ?_) <;> try (exfalso; omega))))
        | refine a_n ?_
        | (refine k_V ?_; first | refine v_rv ?_ | refine v_seq ?_ | refine v_reg ?_ | refine v_dreg ?_ | refine v_zreg ?_ | refine v_bs ?_ | refine v_br ?_ | refine v_bd ?_ | refine v_bc ?_ | refine v_bk ?_ | refine v_bb ?_ | refine v_ret ?_ | refine v_exit ?_ | refine v_skip ?_ | refine v_ct rfl ?_ | refine v_cf rfl ?_ | (refine v_cd rfl (fun hb => ?_) (fun hb => ?_) <;> try (exfalso; omega)) | (refine v_ce rfl (fun hb => ?_) (fun hb => ?_) <;> try (exfalso; omega)) | (refine v_cn rfl (fun hb => ?_) (fun hb => ?_) <;> try (exfalso; omega)) | (refine v_cnd rfl (fun hb => ?_) (fun hb => ?_) <;> try (exfalso; omega)))
        | refine s_n ?_
        | refine s_r ?_
        | refine s_e ?_
        | refine b_n ?_
        | refine b_r ?_
        | refine b_e ?_
        | refine b_o rfl ?_
        | refine r_rt ?_
        | refine r_bk rfl ?_
        | refine r_ex rfl rfl ?_
        | refine sk_zero ?_
        | refine sk_succ ?_
        | refine wk_nil ?_
        | refine wk_cons ?_)
      all_goals refine fa_r (fun _ _ => rfl) (Ent.refl _) ⟨bool_dec ?_, rfl⟩
      all_goals simp_all [R6, HX.hdr, Hdr.s_room, Hdr.s_used, Hdr.s_born, Hdr.s_phase, Hdr.s_hand, Hdr.s_sub, Hdr.s_per, Hdr.s_start, Hdr.s_rounds, Hdr.s_forced, Hdr.s_rd, Hdr.s_cd, Hdr.s_gd, HX.H]
    | cons g r =>
      have hgl1 : (x.hdr.ng : Int) = r.length + 1 := by simp [HX.hdr, hg]
      have hg' : x.H.gray = g :: r := hg
      obtain ⟨g0, g1, _⟩ := hm g (by rw [hg']; simp)
      obtain ⟨y, gy, gc⟩ := HX.atI (x := x) g0 (by omega)
      have g00 : x.gray[(0 : Int).toNat]? = some g := by rw [hg]; rfl
      have hgl : (x.gray.length : Int) = r.length + 1 := by rw [hg]; simp
      repeat' (first
        | (refine k_L ?_; first | (refine k_ad ?_; refine g_ad rfl rfl ?_) | (refine k_su ?_; refine g_su rfl rfl ?_) | (refine k_ml ?_; refine g_ml rfl rfl ?_) | refine a_p rfl ?_ | (refine k_g ?_; first | refine a_gy rfl rfl ?_ | refine a_gn rfl rfl ?_ | refine a_gu rfl ?_ | (refine a_gd rfl (fun hb => ?_) (fun hb => ?_) <;> try (exfalso; omega)) | (refine a_ge rfl (fun hb => ?_) (fun hb => ?_) <;> try (exfalso; omega)) | (refine a_gne rfl (fun hb => ?_) (fun hb => ?_) <;> try (exfalso; omega)) | (refine a_gnd rfl (fun hb => ?_) (fun hb => ?_) <;> try (exfalso; omega))) | (refine k_l ?_; first | refine g_l rfl ?_) | (refine k_i ?_; refine g_i rfl rfl ?_) | (refine k_ls ?_; refine g_ls rfl ?_) | (refine k_st ?_; first | refine g_st rfl rfl rfl rfl ?_ | refine g_sw rfl rfl rfl rfl (Nat.le_of_ble_eq_true rfl) ?_) | (refine k_al ?_; refine a_al ?_) | (refine k_bx ?_; refine a_bx rfl rfl ?_) | (refine k_bl ?_; refine a_bl rfl ?_) | (refine k_p ?_; first | (refine a_pd rfl (fun hb => ?_) (fun hb => ?_) <;> try (exfalso; omega)) | (refine a_pe rfl (fun hb => ?_) (fun hb => ?_) <;> try (exfalso; omega)) | (refine a_pne rfl (fun hb => ?_) (fun hb => ?_) <;> try (exfalso; omega)) | (refine a_pnd rfl (fun hb => ?_) (fun hb => ?_) <;> try (exfalso; omega))))
        | refine a_n ?_
        | (refine k_V ?_; first | refine v_rv ?_ | refine v_seq ?_ | refine v_reg ?_ | refine v_dreg ?_ | refine v_zreg ?_ | refine v_bs ?_ | refine v_br ?_ | refine v_bd ?_ | refine v_bc ?_ | refine v_bk ?_ | refine v_bb ?_ | refine v_ret ?_ | refine v_exit ?_ | refine v_skip ?_ | refine v_ct rfl ?_ | refine v_cf rfl ?_ | (refine v_cd rfl (fun hb => ?_) (fun hb => ?_) <;> try (exfalso; omega)) | (refine v_ce rfl (fun hb => ?_) (fun hb => ?_) <;> try (exfalso; omega)) | (refine v_cn rfl (fun hb => ?_) (fun hb => ?_) <;> try (exfalso; omega)) | (refine v_cnd rfl (fun hb => ?_) (fun hb => ?_) <;> try (exfalso; omega)))
        | refine s_n ?_
        | refine s_r ?_
        | refine s_e ?_
        | refine b_n ?_
        | refine b_r ?_
        | refine b_e ?_
        | refine b_o rfl ?_
        | refine r_rt ?_
        | refine r_bk rfl ?_
        | refine r_ex rfl rfl ?_
        | refine sk_zero ?_
        | refine sk_succ ?_
        | refine wk_nil ?_
        | refine wk_cons ?_)
      all_goals refine fa_r (fun _ _ => rfl) (Ent.refl _) ⟨bool_dec ?_, rfl⟩
      all_goals simp_all [R6, HX.hdr, Hdr.s_room, Hdr.s_used, Hdr.s_born, Hdr.s_phase, Hdr.s_hand, Hdr.s_sub, Hdr.s_per, Hdr.s_start, Hdr.s_rounds, Hdr.s_forced, Hdr.s_rd, Hdr.s_cd, Hdr.s_gd]
      all_goals simp_all [HX.H]
  · have hp2' : ¬ x.hdr.phase = 2 := hp2
    by_cases hh5 : x.hand < x.xs.length
    · obtain ⟨y, gy, gc⟩ := HX.atI (x := x) hh.1 hh5
      have hh5' : x.hdr.hand < x.hdr.nc := hh5
      repeat' (first
        | (refine k_L ?_; first | (refine k_ad ?_; refine g_ad rfl rfl ?_) | (refine k_su ?_; refine g_su rfl rfl ?_) | (refine k_ml ?_; refine g_ml rfl rfl ?_) | refine a_p rfl ?_ | (refine k_g ?_; first | refine a_gy rfl rfl ?_ | refine a_gn rfl rfl ?_ | refine a_gu rfl ?_ | (refine a_gd rfl (fun hb => ?_) (fun hb => ?_) <;> try (exfalso; omega)) | (refine a_ge rfl (fun hb => ?_) (fun hb => ?_) <;> try (exfalso; omega)) | (refine a_gne rfl (fun hb => ?_) (fun hb => ?_) <;> try (exfalso; omega)) | (refine a_gnd rfl (fun hb => ?_) (fun hb => ?_) <;> try (exfalso; omega))) | (refine k_l ?_; first | refine g_l rfl ?_) | (refine k_i ?_; refine g_i rfl rfl ?_) | (refine k_ls ?_; refine g_ls rfl ?_) | (refine k_st ?_; first | refine g_st rfl rfl rfl rfl ?_ | refine g_sw rfl rfl rfl rfl (Nat.le_of_ble_eq_true rfl) ?_) | (refine k_al ?_; refine a_al ?_) | (refine k_bx ?_; refine a_bx rfl rfl ?_) | (refine k_bl ?_; refine a_bl rfl ?_) | (refine k_p ?_; first | (refine a_pd rfl (fun hb => ?_) (fun hb => ?_) <;> try (exfalso; omega)) | (refine a_pe rfl (fun hb => ?_) (fun hb => ?_) <;> try (exfalso; omega)) | (refine a_pne rfl (fun hb => ?_) (fun hb => ?_) <;> try (exfalso; omega)) | (refine a_pnd rfl (fun hb => ?_) (fun hb => ?_) <;> try (exfalso; omega))))
        | refine a_n ?_
        | (refine k_V ?_; first | refine v_rv ?_ | refine v_seq ?_ | refine v_reg ?_ | refine v_dreg ?_ | refine v_zreg ?_ | refine v_bs ?_ | refine v_br ?_ | refine v_bd ?_ | refine v_bc ?_ | refine v_bk ?_ | refine v_bb ?_ | refine v_ret ?_ | refine v_exit ?_ | refine v_skip ?_ | refine v_ct rfl ?_ | refine v_cf rfl ?_ | (refine v_cd rfl (fun hb => ?_) (fun hb => ?_) <;> try (exfalso; omega)) | (refine v_ce rfl (fun hb => ?_) (fun hb => ?_) <;> try (exfalso; omega)) | (refine v_cn rfl (fun hb => ?_) (fun hb => ?_) <;> try (exfalso; omega)) | (refine v_cnd rfl (fun hb => ?_) (fun hb => ?_) <;> try (exfalso; omega)))
        | refine s_n ?_
        | refine s_r ?_
        | refine s_e ?_
        | refine b_n ?_
        | refine b_r ?_
        | refine b_e ?_
        | refine b_o rfl ?_
        | refine r_rt ?_
        | refine r_bk rfl ?_
        | refine r_ex rfl rfl ?_
        | refine sk_zero ?_
        | refine sk_succ ?_
        | refine wk_nil ?_
        | refine wk_cons ?_)
      all_goals refine fa_r (fun _ _ => rfl) (Ent.refl _) ⟨bool_dec ?_, rfl⟩
      all_goals simp_all [R6, HX.hdr, Hdr.s_room, Hdr.s_used, Hdr.s_born, Hdr.s_phase, Hdr.s_hand, Hdr.s_sub, Hdr.s_per, Hdr.s_start, Hdr.s_rounds, Hdr.s_forced, Hdr.s_rd, Hdr.s_cd, Hdr.s_gd]
      all_goals simp_all [HX.H]
    · have hh5' : ¬ (x.hdr.hand < x.hdr.nc) := hh5
      repeat' (first
        | (refine k_L ?_; first | (refine k_ad ?_; refine g_ad rfl rfl ?_) | (refine k_su ?_; refine g_su rfl rfl ?_) | (refine k_ml ?_; refine g_ml rfl rfl ?_) | refine a_p rfl ?_ | (refine k_g ?_; first | refine a_gy rfl rfl ?_ | refine a_gn rfl rfl ?_ | refine a_gu rfl ?_ | (refine a_gd rfl (fun hb => ?_) (fun hb => ?_) <;> try (exfalso; omega)) | (refine a_ge rfl (fun hb => ?_) (fun hb => ?_) <;> try (exfalso; omega)) | (refine a_gne rfl (fun hb => ?_) (fun hb => ?_) <;> try (exfalso; omega)) | (refine a_gnd rfl (fun hb => ?_) (fun hb => ?_) <;> try (exfalso; omega))) | (refine k_l ?_; first | refine g_l rfl ?_) | (refine k_i ?_; refine g_i rfl rfl ?_) | (refine k_ls ?_; refine g_ls rfl ?_) | (refine k_st ?_; first | refine g_st rfl rfl rfl rfl ?_ | refine g_sw rfl rfl rfl rfl (Nat.le_of_ble_eq_true rfl) ?_) | (refine k_al ?_; refine a_al ?_) | (refine k_bx ?_; refine a_bx rfl rfl ?_) | (refine k_bl ?_; refine a_bl rfl ?_) | (refine k_p ?_; first | (refine a_pd rfl (fun hb => ?_) (fun hb => ?_) <;> try (exfalso; omega)) | (refine a_pe rfl (fun hb => ?_) (fun hb => ?_) <;> try (exfalso; omega)) | (refine a_pne rfl (fun hb => ?_) (fun hb => ?_) <;> try (exfalso; omega)) | (refine a_pnd rfl (fun hb => ?_) (fun hb => ?_) <;> try (exfalso; omega))))
        | refine a_n ?_
        | (refine k_V ?_; first | refine v_rv ?_ | refine v_seq ?_ | refine v_reg ?_ | refine v_dreg ?_ | refine v_zreg ?_ | refine v_bs ?_ | refine v_br ?_ | refine v_bd ?_ | refine v_bc ?_ | refine v_bk ?_ | refine v_bb ?_ | refine v_ret ?_ | refine v_exit ?_ | refine v_skip ?_ | refine v_ct rfl ?_ | refine v_cf rfl ?_ | (refine v_cd rfl (fun hb => ?_) (fun hb => ?_) <;> try (exfalso; omega)) | (refine v_ce rfl (fun hb => ?_) (fun hb => ?_) <;> try (exfalso; omega)) | (refine v_cn rfl (fun hb => ?_) (fun hb => ?_) <;> try (exfalso; omega)) | (refine v_cnd rfl (fun hb => ?_) (fun hb => ?_) <;> try (exfalso; omega)))
        | refine s_n ?_
        | refine s_r ?_
        | refine s_e ?_
        | refine b_n ?_
        | refine b_r ?_
        | refine b_e ?_
        | refine b_o rfl ?_
        | refine r_rt ?_
        | refine r_bk rfl ?_
        | refine r_ex rfl rfl ?_
        | refine sk_zero ?_
        | refine sk_succ ?_
        | refine wk_nil ?_
        | refine wk_cons ?_)
      all_goals refine fa_r (fun _ _ => rfl) (Ent.refl _) ⟨bool_dec ?_, rfl⟩
      all_goals simp_all [R6, HX.hdr, Hdr.s_room, Hdr.s_used, Hdr.s_born, Hdr.s_phase, Hdr.s_hand, Hdr.s_sub, Hdr.s_per, Hdr.s_start, Hdr.s_rounds, Hdr.s_forced, Hdr.s_rd, Hdr.s_cd, Hdr.s_gd]
      all_goals simp_all [HX.H]
      all_goals (intros; exfalso; omega)
end Go.Proofs.Ytcmllambknfleaa.E
/- The program's small questions, asked of memory that is only read. Conditions: none. -/
set_option linter.unusedVariables false
set_option linter.unusedSimpArgs false
set_option maxHeartbeats 4000000
set_option maxRecDepth 100000
namespace Go.Proofs.Ytcmllambknfleaa.E
open Go
open Classical
section
variable {m0 m : Mem} {a : Nat} {x : HX} {w : Word} {As F : List Asr} {i k : Int} {mv : Bool}
theorem has_g {Bs : List Asr} (h : Has m0 Bs) (hm : star As m) (hp : Pm As [ro m0] F := by (fail_if_success apply pm_bad); (repeat (first | exact pm_nil | (apply pm_cons; repeat (first | exact pk_h | apply pk_t)))); fail_if_success focus skip) : Has m Bs := h.le (ro_of hm hp)
theorem formed_g (h : Has m0 (hp a x)) (hm : star As m) (hp : Pm As [ro m0] F := by (fail_if_success apply pm_bad); (repeat (first | exact pm_nil | (apply pm_cons; repeat (first | exact pk_h | apply pk_t)))); fail_if_success focus skip) : Qt Try.prog 106 [ptr a, wa w] m (.bool (decide (Formed x.H w))) := formed_q (h.le (ro_of hm hp)).ph
theorem marking_g (h : Has m0 (hp a x)) (hm : star As m) (hp : Pm As [ro m0] F := by (fail_if_success apply pm_bad); (repeat (first | exact pm_nil | (apply pm_cons; repeat (first | exact pk_h | apply pk_t)))); fail_if_success focus skip) : Qt Try.prog 147 [ptr a] m (.bool (decide (Marking x.H))) := marking_q (h.le (ro_of hm hp)).ph
theorem doomed_g (h : Has m0 (hp a x)) (h0 : 0 ≤ i) (h1 : i < x.H.cells.length) (hm : star As m) (hp : Pm As [ro m0] F := by (fail_if_success apply pm_bad); (repeat (first | exact pm_nil | (apply pm_cons; repeat (first | exact pk_h | apply pk_t)))); fail_if_success focus skip) : Qt Try.prog 144 [ptr a, .int .i64 i] m (.bool (decide (Doomed x.H i))) := doomed_q (h.le (ro_of hm hp)).ph h0 h1
theorem mended_g (h : Has m0 (hp a x)) (hm : star As m) (hp : Pm As [ro m0] F := by (fail_if_success apply pm_bad); (repeat (first | exact pm_nil | (apply pm_cons; repeat (first | exact pk_h | apply pk_t)))); fail_if_success focus skip) : Qt Try.prog 146 [ptr a, .int .i64 i, .int .i64 k] m (.bool (decide (Mended x.H i k))) := mended_q (h.le (ro_of hm hp)).ph
theorem white_g (h : Has m0 (hp a x)) (hf : Formed x.H w) (hm : star As m) (hp : Pm As [ro m0] F := by (fail_if_success apply pm_bad); (repeat (first | exact pm_nil | (apply pm_cons; repeat (first | exact pk_h | apply pk_t)))); fail_if_success focus skip) : Qt Try.prog 148 [ptr a, wa w] m (.bool (decide (White x.H w))) := white_q (h.le (ro_of hm hp)).ph hf
theorem leadsWell_g (h : Has m0 (hp a x)) (hf : Formed x.H w) (hm : star As m) (hp : Pm As [ro m0] F := by (fail_if_success apply pm_bad); (repeat (first | exact pm_nil | (apply pm_cons; repeat (first | exact pk_h | apply pk_t)))); fail_if_success focus skip) : Qt Try.prog 143 [ptr a, wa w, .bool mv] m (.bool (decide (LeadsWell x.H w (mv = true)))) := leadsWell_q (h.le (ro_of hm hp)).ph hf
theorem lead_g (h : Has m0 (hp a x)) (hf : w.kind = 2 → 0 ≤ w.at_ ∧ w.at_ < x.H.cells.length) (hm : star As m) (hp : Pm As [ro m0] F := by (fail_if_success apply pm_bad); (repeat (first | exact pm_nil | (apply pm_cons; repeat (first | exact pk_h | apply pk_t)))); fail_if_success focus skip) : Qt Try.prog 107 [ptr a, wa w] m (wa (x.H.lead w)) := lead_q (h.le (ro_of hm hp)).ph hf
end
/-! ### The end of a function that only looks -/
theorem q_t {m : Mem} {p : Prop} {_ : Decidable p} (h : p) : Value.bool true = .bool (decide p) ∧ [ro m] = [ro m] := ⟨ret_t h, rfl⟩
theorem q_f {m : Mem} {p : Prop} {_ : Decidable p} (h : ¬ p) : Value.bool false = .bool (decide p) ∧ [ro m] = [ro m] := ⟨ret_f h, rfl⟩
theorem fa_q {rl : List RV} {S : St} {m : Mem} {As F : List Asr} {v r : Value} {y : X} (hy : ∀ i, y ≠ .ext i) (h : ∀ m, star As m → resV S m rl = some v) (e : v = r) (hm : Pm As [ro m] F := by (fail_if_success apply pm_bad); (repeat (first | exact pm_nil | (apply pm_cons; repeat (first | exact pk_h | apply pk_t)))); fail_if_success focus skip) : fnA rl (fun v As => v = r ∧ As = [ro m]) y S As := by
  cases y with
  | ext i => exact absurd rfl (hy i)
  | nrm => exact ⟨v, [ro m], h, hm.ent, e, rfl⟩
  | ret => exact ⟨v, [ro m], h, hm.ent, e, rfl⟩
theorem q_T {rl : List RV} {S : St} {m : Mem} {As F : List Asr} {p : Prop} {_ : Decidable p} (hp : p) (h : ∀ m, star As m → resV S m rl = some (.bool true) := by (intro _ _; rfl)) (hm : Pm As [ro m] F := by (fail_if_success apply pm_bad); (repeat (first | exact pm_nil | (apply pm_cons; repeat (first | exact pk_h | apply pk_t)))); fail_if_success focus skip) : fnA rl (fun v As => v = .bool (decide p) ∧ As = [ro m]) .ret S As := ⟨_, [ro m], h, hm.ent, ret_t hp, rfl⟩
theorem q_F {rl : List RV} {S : St} {m : Mem} {As F : List Asr} {p : Prop} {_ : Decidable p} (hp : ¬ p) (h : ∀ m, star As m → resV S m rl = some (.bool false) := by (intro _ _; rfl)) (hm : Pm As [ro m] F := by (fail_if_success apply pm_bad); (repeat (first | exact pm_nil | (apply pm_cons; repeat (first | exact pk_h | apply pk_t)))); fail_if_success focus skip) : fnA rl (fun v As => v = .bool (decide p) ∧ As = [ro m]) .ret S As := ⟨_, [ro m], h, hm.ent, ret_f hp, rfl⟩
theorem q_B {rl : List RV} {S : St} {m : Mem} {As F : List Asr} {p : Prop} {_ : Decidable p} {b : Bool} (h : ∀ m, star As m → resV S m rl = some (.bool b)) (hp : b = true ↔ p) (hm : Pm As [ro m] F := by (fail_if_success apply pm_bad); (repeat (first | exact pm_nil | (apply pm_cons; repeat (first | exact pk_h | apply pk_t)))); fail_if_success focus skip) : fnA rl (fun v As => v = .bool (decide p) ∧ As = [ro m]) .ret S As := ⟨_, [ro m], h, hm.ent, by congr 1; rw [Bool.eq_iff_iff, hp]; simp, rfl⟩
end Go.Proofs.Ytcmllambknfleaa.E
/- The program's rule 5. Conditions: none. -/
set_option linter.unusedVariables false
set_option linter.unusedSimpArgs false
set_option maxHeartbeats 4000000
set_option maxRecDepth 100000
namespace Go.Proofs.Ytcmllambknfleaa.E
open Go
open Classical
/-- a set, kept as a map to true -/
noncomputable def setM (p : Int → Prop) : Int → Option Value := fun i => if p i then some (.bool true) else none
theorem setM_get {p : Int → Prop} {j : Int} {ok : Bool} (h : ok = false) : (if ok then Value.tuple #[(setM p j).getD (.bool false), .bool (setM p j).isSome] else (setM p j).getD (.bool false)) = .bool (decide (p j)) := by
  subst h
  unfold setM
  by_cases hp : p j <;> simp [hp]
theorem setM_set {p q : Int → Prop} {j : Int} (h : ∀ i, q i ↔ i = j ∨ p i) : (fun i => if i = j then some (Value.bool true) else setM p i) = setM q := by
  funext i
  unfold setM
  by_cases e : i = j
  · simp [e, (h j).2 (.inl rfl)]
  · rw [if_neg e]
    by_cases hp : p i
    · rw [if_pos hp, if_pos ((h i).2 (.inr hp))]
    · rw [if_neg hp, if_neg (fun hq => ((h i).1 hq).elim e hp)]
theorem setM_none : (fun _ => none : Int → Option Value) = setM (fun _ => False) := by funext i; simp [setM]
theorem rule5_q {m : Mem} {a : Nat} {x : HX} (h : Has m (hp a x)) : Qt Try.prog 99 [ptr a] m (.bool (decide (R5 x.H))) := by
  have hb := h.lens
  have hl := x.len
  refine qt_of (fnA_of (fun h => fn99 (by simp) h) ?_)
  repeat' (first
    | (refine k_L ?_; first | (refine k_ad ?_; refine g_ad rfl rfl ?_) | (refine k_su ?_; refine g_su rfl rfl ?_) | (refine k_ml ?_; refine g_ml rfl rfl ?_) | refine a_p rfl ?_ | (refine k_g ?_; first | refine a_gy rfl rfl ?_ | refine a_gn rfl rfl ?_ | refine a_gu rfl ?_ | (refine a_gd rfl (fun hb => ?_) (fun hb => ?_) <;> try (exfalso; omega)) | (refine a_ge rfl (fun hb => ?_) (fun hb => ?_) <;> try (exfalso; omega)) | (refine a_gne rfl (fun hb => ?_) (fun hb => ?_) <;> try (exfalso; omega)) | (refine a_gnd rfl (fun hb => ?_) (fun hb => ?_) <;> try (exfalso; omega))) | (refine k_l ?_; first | refine g_l rfl ?_) | (refine k_i ?_; refine g_i rfl rfl ?_) | (refine k_ls ?_; refine g_ls rfl ?_) | (refine k_st ?_; first | refine g_st rfl rfl rfl rfl ?_ | refine g_sw rfl rfl rfl rfl (Nat.le_of_ble_eq_true rfl) ?_) | (refine k_al ?_; refine a_al ?_) | (refine k_bx ?_; refine a_bx rfl rfl ?_) | (refine k_bl ?_; refine a_bl rfl ?_) | (refine k_q ?_; first | refine a_q rfl (fun m hm => marking_g h hm) ?_) | (refine k_c ?_; first | refine a_cq rfl (fun m hm => marking_g h hm) ?_) | (refine k_p ?_; first | (refine a_pd rfl (fun hb => ?_) (fun hb => ?_) <;> try (exfalso; omega)) | (refine a_pe rfl (fun hb => ?_) (fun hb => ?_) <;> try (exfalso; omega)) | (refine a_pne rfl (fun hb => ?_) (fun hb => ?_) <;> try (exfalso; omega)) | (refine a_pnd rfl (fun hb => ?_) (fun hb => ?_) <;> try (exfalso; omega))))
    | refine a_n ?_
    | (refine k_V ?_; first | refine v_rv ?_ | refine v_seq ?_ | refine v_reg ?_ | refine v_dreg ?_ | refine v_zreg ?_ | refine v_bs ?_ | refine v_br ?_ | refine v_bd ?_ | refine v_bc ?_ | refine v_bk ?_ | refine v_bb ?_ | refine v_ret ?_ | refine v_exit ?_ | refine v_skip ?_ | refine v_ct rfl ?_ | refine v_cf rfl ?_ | (refine v_cd rfl (fun hb => ?_) (fun hb => ?_) <;> try (exfalso; omega)) | (refine v_ce rfl (fun hb => ?_) (fun hb => ?_) <;> try (exfalso; omega)) | (refine v_cn rfl (fun hb => ?_) (fun hb => ?_) <;> try (exfalso; omega)) | (refine v_cnd rfl (fun hb => ?_) (fun hb => ?_) <;> try (exfalso; omega)))
    | refine s_n ?_
    | refine s_r ?_
    | refine s_e ?_
    | refine b_n ?_
    | refine b_r ?_
    | refine b_e ?_
    | refine b_o rfl ?_
    | refine r_rt ?_
    | refine r_bk rfl ?_
    | refine r_ex rfl rfl ?_
    | refine sk_zero ?_
    | refine sk_succ ?_
    | refine wk_nil ?_
    | refine wk_cons ?_)
  · have hmk := hb
    refine a_mm (fun b => ?_)
    rw [setM_none, show (fun _ => False : Int → Prop) = fun g => g ∈ x.gray.take 0 from by funext g; simp]
    repeat' (first
      | (refine k_L ?_; first | (refine k_ad ?_; refine g_ad rfl rfl ?_) | (refine k_su ?_; refine g_su rfl rfl ?_) | (refine k_ml ?_; refine g_ml rfl rfl ?_) | refine a_p rfl ?_ | (refine k_g ?_; first | refine a_gy rfl rfl ?_ | refine a_gn rfl rfl ?_ | refine a_gu rfl ?_ | (refine a_gd rfl (fun hb => ?_) (fun hb => ?_) <;> try (exfalso; omega)) | (refine a_ge rfl (fun hb => ?_) (fun hb => ?_) <;> try (exfalso; omega)) | (refine a_gne rfl (fun hb => ?_) (fun hb => ?_) <;> try (exfalso; omega)) | (refine a_gnd rfl (fun hb => ?_) (fun hb => ?_) <;> try (exfalso; omega))) | (refine k_l ?_; first | refine g_l rfl ?_) | (refine k_i ?_; refine g_i rfl rfl ?_) | (refine k_ls ?_; refine g_ls rfl ?_) | (refine k_st ?_; first | refine g_st rfl rfl rfl rfl ?_ | refine g_sw rfl rfl rfl rfl (Nat.le_of_ble_eq_true rfl) ?_) | (refine k_al ?_; refine a_al ?_) | (refine k_bx ?_; refine a_bx rfl rfl ?_) | (refine k_bl ?_; refine a_bl rfl ?_) | (refine k_p ?_; first | (refine a_pd rfl (fun hb => ?_) (fun hb => ?_) <;> try (exfalso; omega)) | (refine a_pe rfl (fun hb => ?_) (fun hb => ?_) <;> try (exfalso; omega)) | (refine a_pne rfl (fun hb => ?_) (fun hb => ?_) <;> try (exfalso; omega)) | (refine a_pnd rfl (fun hb => ?_) (fun hb => ?_) <;> try (exfalso; omega))))
      | refine a_n ?_
      | (refine k_V ?_; first | refine v_rv ?_ | refine v_seq ?_ | refine v_reg ?_ | refine v_dreg ?_ | refine v_zreg ?_ | refine v_bs ?_ | refine v_br ?_ | refine v_bd ?_ | refine v_bc ?_ | refine v_bk ?_ | refine v_bb ?_ | refine v_ret ?_ | refine v_exit ?_ | refine v_skip ?_ | refine v_ct rfl ?_ | refine v_cf rfl ?_ | (refine v_cd rfl (fun hb => ?_) (fun hb => ?_) <;> try (exfalso; omega)) | (refine v_ce rfl (fun hb => ?_) (fun hb => ?_) <;> try (exfalso; omega)) | (refine v_cn rfl (fun hb => ?_) (fun hb => ?_) <;> try (exfalso; omega)) | (refine v_cnd rfl (fun hb => ?_) (fun hb => ?_) <;> try (exfalso; omega)))
      | refine s_n ?_
      | refine s_r ?_
      | refine s_e ?_
      | refine b_n ?_
      | refine b_r ?_
      | refine b_e ?_
      | refine b_o rfl ?_
      | refine r_rt ?_
      | refine r_bk rfl ?_
      | refine r_ex rfl rfl ?_
      | refine sk_zero ?_
      | refine sk_succ ?_
      | refine wk_nil ?_
      | refine wk_cons ?_)
    refine g_range x.gray.length (fun _ : Nat => [(0, .v (ptr a)), (3, .v (.map (some b))), (16, .v (.slice x.gd.a x.gray.length x.gd.cap))]) (fun i => [mpA b (setM (fun g => g ∈ x.gray.take i)), ro m]) (fun i j => j = i ∧ (x.gray.take i).Nodup ∧ ∀ g, g ∈ x.gray.take i → 0 ≤ g ∧ g < x.H.cells.length ∧ (x.H.getC g).state = 1 ∧ (x.H.getC g).color = 1) 0 ⟨rfl, by simp, by simp⟩ (fun i j hi hv => ?_) (fun j hv => ?_)
    · obtain ⟨rfl, hnd, hv⟩ := hv
      obtain ⟨g, gg⟩ : ∃ g, x.gray[j]? = some g := ⟨_, List.getElem?_eq_getElem hi⟩
      have hgm := List.mem_of_getElem? gg
      have hnc : (x.hdr.nc : Int) = x.H.cells.length := by rw [hl]; rfl
      have htk : x.gray.take (j + 1) = x.gray.take j ++ [g] := by rw [List.take_add_one, gg]; rfl
      have hnin : x.H.gray.Nodup → g ∉ x.gray.take j := by
        intro hn hm
        have : x.gray = x.gray.take j ++ x.gray.drop j := (List.take_append_drop _ _).symm
        have hn' : (x.gray.take j ++ x.gray.drop j).Nodup := by rw [← this]; exact hn
        rw [List.nodup_append] at hn'
        refine hn'.2.2 g hm g ?_ rfl
        refine List.mem_of_getElem? (i := 0) ?_
        rw [List.getElem?_drop]; simpa using gg
      by_cases hin : 0 ≤ g ∧ g < x.H.cells.length
      · obtain ⟨y, gy, gc⟩ := HX.atI (x := x) hin.1 (by omega)
        repeat' (first
          | (refine k_L ?_; first | (refine k_ad ?_; refine g_ad rfl rfl ?_) | (refine k_su ?_; refine g_su rfl rfl ?_) | (refine k_ml ?_; refine g_ml rfl rfl ?_) | refine a_p rfl ?_ | (refine k_g ?_; first | refine a_gy rfl rfl ?_ | refine a_gn rfl rfl ?_ | refine a_gu rfl ?_ | (refine a_gd rfl (fun hb => ?_) (fun hb => ?_) <;> try (exfalso; omega)) | (refine a_ge rfl (fun hb => ?_) (fun hb => ?_) <;> try (exfalso; omega)) | (refine a_gne rfl (fun hb => ?_) (fun hb => ?_) <;> try (exfalso; omega)) | (refine a_gnd rfl (fun hb => ?_) (fun hb => ?_) <;> try (exfalso; omega))) | (refine k_l ?_; first | refine g_l rfl ?_) | (refine k_i ?_; refine g_i rfl rfl ?_) | (refine k_ls ?_; refine g_ls rfl ?_) | (refine k_st ?_; first | refine g_st rfl rfl rfl rfl ?_ | refine g_sw rfl rfl rfl rfl (Nat.le_of_ble_eq_true rfl) ?_) | (refine k_al ?_; refine a_al ?_) | (refine k_bx ?_; refine a_bx rfl rfl ?_) | (refine k_bl ?_; refine a_bl rfl ?_) | (refine k_q ?_; first | refine a_q rfl (fun m hm => impl.withinQ) ?_) | (refine k_c ?_; first | refine a_cq rfl (fun m hm => impl.withinQ) ?_) | (refine k_p ?_; first | (refine a_pd rfl (fun hb => ?_) (fun hb => ?_) <;> try (exfalso; omega)) | (refine a_pe rfl (fun hb => ?_) (fun hb => ?_) <;> try (exfalso; omega)) | (refine a_pne rfl (fun hb => ?_) (fun hb => ?_) <;> try (exfalso; omega)) | (refine a_pnd rfl (fun hb => ?_) (fun hb => ?_) <;> try (exfalso; omega))) | (refine a_lk (by (fail_if_success apply pk_bad); (repeat (first | exact pk_h | apply pk_t)); fail_if_success focus skip) rfl rfl (setM_get rfl) ?_) | (refine a_mu (by (fail_if_success apply pk_bad); (repeat (first | exact pk_h | apply pk_t)); fail_if_success focus skip) rfl rfl rfl ?_; rw [setM_set (q := fun g => g ∈ x.gray.take (j + 1)) (fun i => by rw [htk]; simp [or_comm])]))
          | refine a_n ?_
          | (refine k_V ?_; first | refine v_rv ?_ | refine v_seq ?_ | refine v_reg ?_ | refine v_dreg ?_ | refine v_zreg ?_ | refine v_bs ?_ | refine v_br ?_ | refine v_bd ?_ | refine v_bc ?_ | refine v_bk ?_ | refine v_bb ?_ | refine v_ret ?_ | refine v_exit ?_ | refine v_skip ?_ | refine v_ct rfl ?_ | refine v_cf rfl ?_ | (refine v_cd rfl (fun hb => ?_) (fun hb => ?_) <;> try (exfalso; omega)) | (refine v_ce rfl (fun hb => ?_) (fun hb => ?_) <;> try (exfalso; omega)) | (refine v_cn rfl (fun hb => ?_) (fun hb => ?_) <;> try (exfalso; omega)) | (refine v_cnd rfl (fun hb => ?_) (fun hb => ?_) <;> try (exfalso; omega)))
          | refine s_n ?_
          | refine s_r ?_
          | refine s_e ?_
          | refine b_n ?_
          | refine b_r ?_
          | refine b_e ?_
          | refine b_o rfl ?_
          | refine r_rt ?_
          | refine r_bk rfl ?_
          | refine r_ex rfl rfl ?_
          | refine sk_zero ?_
          | refine sk_succ ?_
          | refine wk_nil ?_
          | refine wk_cons ?_)
        · exact q_F fun h5 => absurd ‹g ∈ x.gray.take j› (hnin (h5.mark ‹_›).1)
        · exact q_F fun h5 => absurd (gc ▸ ((h5.mark ‹_›).2.1 g hgm).2.2.1) ‹_›
        · exact q_F fun h5 => absurd (gc ▸ ((h5.mark ‹_›).2.1 g hgm).2.2.2) ‹_›
        · refine r_nx (j + 1) ⟨rfl, ?_, fun g' hg' => ?_⟩
          · rw [htk]
            exact List.nodup_append.2 ⟨hnd, by simp, fun u hu v hv e => by simp at hv; subst hv; subst e; exact ‹¬ _› hu⟩
          · rw [htk] at hg'
            rcases List.mem_append.1 hg' with hg' | hg'
            · exact hv g' hg'
            · simp at hg'; subst hg'
              exact ⟨hin.1, hin.2, by rw [gc]; assumption, by rw [gc]; assumption⟩
      · repeat' (first
          | (refine k_L ?_; first | (refine k_ad ?_; refine g_ad rfl rfl ?_) | (refine k_su ?_; refine g_su rfl rfl ?_) | (refine k_ml ?_; refine g_ml rfl rfl ?_) | refine a_p rfl ?_ | (refine k_g ?_; first | refine a_gy rfl rfl ?_ | refine a_gn rfl rfl ?_ | refine a_gu rfl ?_ | (refine a_gd rfl (fun hb => ?_) (fun hb => ?_) <;> try (exfalso; omega)) | (refine a_ge rfl (fun hb => ?_) (fun hb => ?_) <;> try (exfalso; omega)) | (refine a_gne rfl (fun hb => ?_) (fun hb => ?_) <;> try (exfalso; omega)) | (refine a_gnd rfl (fun hb => ?_) (fun hb => ?_) <;> try (exfalso; omega))) | (refine k_l ?_; first | refine g_l rfl ?_) | (refine k_i ?_; refine g_i rfl rfl ?_) | (refine k_ls ?_; refine g_ls rfl ?_) | (refine k_st ?_; first | refine g_st rfl rfl rfl rfl ?_ | refine g_sw rfl rfl rfl rfl (Nat.le_of_ble_eq_true rfl) ?_) | (refine k_al ?_; refine a_al ?_) | (refine k_bx ?_; refine a_bx rfl rfl ?_) | (refine k_bl ?_; refine a_bl rfl ?_) | (refine k_q ?_; first | refine a_q rfl (fun m hm => impl.withinQ) ?_) | (refine k_c ?_; first | refine a_cq rfl (fun m hm => impl.withinQ) ?_) | (refine k_p ?_; first | (refine a_pd rfl (fun hb => ?_) (fun hb => ?_) <;> try (exfalso; omega)) | (refine a_pe rfl (fun hb => ?_) (fun hb => ?_) <;> try (exfalso; omega)) | (refine a_pne rfl (fun hb => ?_) (fun hb => ?_) <;> try (exfalso; omega)) | (refine a_pnd rfl (fun hb => ?_) (fun hb => ?_) <;> try (exfalso; omega))))
          | refine a_n ?_
          | (refine k_V ?_; first | refine v_rv ?_ | refine v_seq ?_ | refine v_reg ?_ | refine v_dreg ?_ | refine v_zreg ?_ | refine v_bs ?_ | refine v_br ?_ | refine v_bd ?_ | refine v_bc ?_ | refine v_bk ?_ | refine v_bb ?_ | refine v_ret ?_ | refine v_exit ?_ | refine v_skip ?_ | refine v_ct rfl ?_ | refine v_cf rfl ?_ | (refine v_cd rfl (fun hb => ?_) (fun hb => ?_) <;> try (exfalso; omega)) | (refine v_ce rfl (fun hb => ?_) (fun hb => ?_) <;> try (exfalso; omega)) | (refine v_cn rfl (fun hb => ?_) (fun hb => ?_) <;> try (exfalso; omega)) | (refine v_cnd rfl (fun hb => ?_) (fun hb => ?_) <;> try (exfalso; omega)))
          | refine s_n ?_
          | refine s_r ?_
          | refine s_e ?_
          | refine b_n ?_
          | refine b_r ?_
          | refine b_e ?_
          | refine b_o rfl ?_
          | refine r_rt ?_
          | refine r_bk rfl ?_
          | refine r_ex rfl rfl ?_
          | refine sk_zero ?_
          | refine sk_succ ?_
          | refine wk_nil ?_
          | refine wk_cons ?_)
        exact q_F fun h5 => hin ⟨((h5.mark ‹_›).2.1 g hgm).1, ((h5.mark ‹_›).2.1 g hgm).2.1⟩
    · obtain ⟨rfl, hnd, hv⟩ := hv
      rw [List.take_length] at hnd hv ⊢
      repeat' (first
        | (refine k_L ?_; first | (refine k_ad ?_; refine g_ad rfl rfl ?_) | (refine k_su ?_; refine g_su rfl rfl ?_) | (refine k_ml ?_; refine g_ml rfl rfl ?_) | refine a_p rfl ?_ | (refine k_g ?_; first | refine a_gy rfl rfl ?_ | refine a_gn rfl rfl ?_ | refine a_gu rfl ?_ | (refine a_gd rfl (fun hb => ?_) (fun hb => ?_) <;> try (exfalso; omega)) | (refine a_ge rfl (fun hb => ?_) (fun hb => ?_) <;> try (exfalso; omega)) | (refine a_gne rfl (fun hb => ?_) (fun hb => ?_) <;> try (exfalso; omega)) | (refine a_gnd rfl (fun hb => ?_) (fun hb => ?_) <;> try (exfalso; omega))) | (refine k_l ?_; first | refine g_l rfl ?_) | (refine k_i ?_; refine g_i rfl rfl ?_) | (refine k_ls ?_; refine g_ls rfl ?_) | (refine k_st ?_; first | refine g_st rfl rfl rfl rfl ?_ | refine g_sw rfl rfl rfl rfl (Nat.le_of_ble_eq_true rfl) ?_) | (refine k_al ?_; refine a_al ?_) | (refine k_bx ?_; refine a_bx rfl rfl ?_) | (refine k_bl ?_; refine a_bl rfl ?_) | (refine k_p ?_; first | (refine a_pd rfl (fun hb => ?_) (fun hb => ?_) <;> try (exfalso; omega)) | (refine a_pe rfl (fun hb => ?_) (fun hb => ?_) <;> try (exfalso; omega)) | (refine a_pne rfl (fun hb => ?_) (fun hb => ?_) <;> try (exfalso; omega)) | (refine a_pnd rfl (fun hb => ?_) (fun hb => ?_) <;> try (exfalso; omega))))
        | refine a_n ?_
        | (refine k_V ?_; first | refine v_rv ?_ | refine v_seq ?_ | refine v_reg ?_ | refine v_dreg ?_ | refine v_zreg ?_ | refine v_bs ?_ | refine v_br ?_ | refine v_bd ?_ | refine v_bc ?_ | refine v_bk ?_ | refine v_bb ?_ | refine v_ret ?_ | refine v_exit ?_ | refine v_skip ?_ | refine v_ct rfl ?_ | refine v_cf rfl ?_ | (refine v_cd rfl (fun hb => ?_) (fun hb => ?_) <;> try (exfalso; omega)) | (refine v_ce rfl (fun hb => ?_) (fun hb => ?_) <;> try (exfalso; omega)) | (refine v_cn rfl (fun hb => ?_) (fun hb => ?_) <;> try (exfalso; omega)) | (refine v_cnd rfl (fun hb => ?_) (fun hb => ?_) <;> try (exfalso; omega)))
        | refine s_n ?_
        | refine s_r ?_
        | refine s_e ?_
        | refine b_n ?_
        | refine b_r ?_
        | refine b_e ?_
        | refine b_o rfl ?_
        | refine r_rt ?_
        | refine r_bk rfl ?_
        | refine r_ex rfl rfl ?_
        | refine sk_zero ?_
        | refine sk_succ ?_
        | refine wk_nil ?_
        | refine wk_cons ?_)
      refine g_range x.xs.length (fun _ : Unit => [(3, .v (.map (some b))), (64, .v (.slice x.cd.a x.xs.length x.cd.cap))]) (fun _ => [mpA b (setM (fun g => g ∈ x.gray)), ro m]) (fun i _ => ∀ (j : Nat) c, j < i → x.H.cells[j]? = some c → c.color = 1 → (j : Int) ∈ x.gray) () (fun j c hj => by omega) (fun i _ hi hw => ?_) (fun _ hw => ?_)
      · obtain ⟨y, gy, gc⟩ := HX.at hi
        repeat' (first
          | (refine k_L ?_; first | (refine k_ad ?_; refine g_ad rfl rfl ?_) | (refine k_su ?_; refine g_su rfl rfl ?_) | (refine k_ml ?_; refine g_ml rfl rfl ?_) | refine a_p rfl ?_ | (refine k_g ?_; first | refine a_gy rfl rfl ?_ | refine a_gn rfl rfl ?_ | refine a_gu rfl ?_ | (refine a_gd rfl (fun hb => ?_) (fun hb => ?_) <;> try (exfalso; omega)) | (refine a_ge rfl (fun hb => ?_) (fun hb => ?_) <;> try (exfalso; omega)) | (refine a_gne rfl (fun hb => ?_) (fun hb => ?_) <;> try (exfalso; omega)) | (refine a_gnd rfl (fun hb => ?_) (fun hb => ?_) <;> try (exfalso; omega))) | (refine k_l ?_; first | refine g_l rfl ?_) | (refine k_i ?_; refine g_i rfl rfl ?_) | (refine k_ls ?_; refine g_ls rfl ?_) | (refine k_st ?_; first | refine g_st rfl rfl rfl rfl ?_ | refine g_sw rfl rfl rfl rfl (Nat.le_of_ble_eq_true rfl) ?_) | (refine k_al ?_; refine a_al ?_) | (refine k_bx ?_; refine a_bx rfl rfl ?_) | (refine k_bl ?_; refine a_bl rfl ?_) | (refine k_p ?_; first | (refine a_pd rfl (fun hb => ?_) (fun hb => ?_) <;> try (exfalso; omega)) | (refine a_pe rfl (fun hb => ?_) (fun hb => ?_) <;> try (exfalso; omega)) | (refine a_pne rfl (fun hb => ?_) (fun hb => ?_) <;> try (exfalso; omega)) | (refine a_pnd rfl (fun hb => ?_) (fun hb => ?_) <;> try (exfalso; omega))) | (refine a_lk (by (fail_if_success apply pk_bad); (repeat (first | exact pk_h | apply pk_t)); fail_if_success focus skip) rfl rfl (setM_get rfl) ?_))
          | refine a_n ?_
          | (refine k_V ?_; first | refine v_rv ?_ | refine v_seq ?_ | refine v_reg ?_ | refine v_dreg ?_ | refine v_zreg ?_ | refine v_bs ?_ | refine v_br ?_ | refine v_bd ?_ | refine v_bc ?_ | refine v_bk ?_ | refine v_bb ?_ | refine v_ret ?_ | refine v_exit ?_ | refine v_skip ?_ | refine v_ct rfl ?_ | refine v_cf rfl ?_ | (refine v_cd rfl (fun hb => ?_) (fun hb => ?_) <;> try (exfalso; omega)) | (refine v_ce rfl (fun hb => ?_) (fun hb => ?_) <;> try (exfalso; omega)) | (refine v_cn rfl (fun hb => ?_) (fun hb => ?_) <;> try (exfalso; omega)) | (refine v_cnd rfl (fun hb => ?_) (fun hb => ?_) <;> try (exfalso; omega)))
          | refine s_n ?_
          | refine s_r ?_
          | refine s_e ?_
          | refine b_n ?_
          | refine b_r ?_
          | refine b_e ?_
          | refine b_o rfl ?_
          | refine r_rt ?_
          | refine r_bk rfl ?_
          | refine r_ex rfl rfl ?_
          | refine sk_zero ?_
          | refine sk_succ ?_
          | refine wk_nil ?_
          | refine wk_cons ?_)
        · exact q_F fun h5 => absurd ((h5.mark ‹_›).2.2 i _ gc ‹_›) ‹_›
        all_goals refine r_nx () (fun j c hj hc hk => ?_)
        all_goals (by_cases e : j = i; (subst e; rw [gc] at hc; cases hc; first | assumption | exact absurd hk ‹_›); exact hw j c (by omega) hc hk)
      · repeat' (first
          | (refine k_L ?_; first | (refine k_ad ?_; refine g_ad rfl rfl ?_) | (refine k_su ?_; refine g_su rfl rfl ?_) | (refine k_ml ?_; refine g_ml rfl rfl ?_) | refine a_p rfl ?_ | (refine k_g ?_; first | refine a_gy rfl rfl ?_ | refine a_gn rfl rfl ?_ | refine a_gu rfl ?_ | (refine a_gd rfl (fun hb => ?_) (fun hb => ?_) <;> try (exfalso; omega)) | (refine a_ge rfl (fun hb => ?_) (fun hb => ?_) <;> try (exfalso; omega)) | (refine a_gne rfl (fun hb => ?_) (fun hb => ?_) <;> try (exfalso; omega)) | (refine a_gnd rfl (fun hb => ?_) (fun hb => ?_) <;> try (exfalso; omega))) | (refine k_l ?_; first | refine g_l rfl ?_) | (refine k_i ?_; refine g_i rfl rfl ?_) | (refine k_ls ?_; refine g_ls rfl ?_) | (refine k_st ?_; first | refine g_st rfl rfl rfl rfl ?_ | refine g_sw rfl rfl rfl rfl (Nat.le_of_ble_eq_true rfl) ?_) | (refine k_al ?_; refine a_al ?_) | (refine k_bx ?_; refine a_bx rfl rfl ?_) | (refine k_bl ?_; refine a_bl rfl ?_) | (refine k_p ?_; first | (refine a_pd rfl (fun hb => ?_) (fun hb => ?_) <;> try (exfalso; omega)) | (refine a_pe rfl (fun hb => ?_) (fun hb => ?_) <;> try (exfalso; omega)) | (refine a_pne rfl (fun hb => ?_) (fun hb => ?_) <;> try (exfalso; omega)) | (refine a_pnd rfl (fun hb => ?_) (fun hb => ?_) <;> try (exfalso; omega))))
          | refine a_n ?_
          | (refine k_V ?_; first | refine v_rv ?_ | refine v_seq ?_ | refine v_reg ?_ | refine v_dreg ?_ | refine v_zreg ?_ | refine v_bs ?_ | refine v_br ?_ | refine v_bd ?_ | refine v_bc ?_ | refine v_bk ?_ | refine v_bb ?_ | refine v_ret ?_ | refine v_exit ?_ | refine v_skip ?_ | refine v_ct rfl ?_ | refine v_cf rfl ?_ | (refine v_cd rfl (fun hb => ?_) (fun hb => ?_) <;> try (exfalso; omega)) | (refine v_ce rfl (fun hb => ?_) (fun hb => ?_) <;> try (exfalso; omega)) | (refine v_cn rfl (fun hb => ?_) (fun hb => ?_) <;> try (exfalso; omega)) | (refine v_cnd rfl (fun hb => ?_) (fun hb => ?_) <;> try (exfalso; omega)))
          | refine s_n ?_
          | refine s_r ?_
          | refine s_e ?_
          | refine b_n ?_
          | refine b_r ?_
          | refine b_e ?_
          | refine b_o rfl ?_
          | refine r_rt ?_
          | refine r_bk rfl ?_
          | refine r_ex rfl rfl ?_
          | refine sk_zero ?_
          | refine sk_succ ?_
          | refine wk_nil ?_
          | refine wk_cons ?_)
        refine q_T ⟨fun _ => ⟨hnd, hv, fun i c hc hk => hw i c (by have := (List.getElem?_eq_some_iff.1 hc).1; omega) hc hk⟩, fun hn => absurd hmk hn⟩
  · have hmk := hb
    repeat' (first
      | (refine k_L ?_; first | (refine k_ad ?_; refine g_ad rfl rfl ?_) | (refine k_su ?_; refine g_su rfl rfl ?_) | (refine k_ml ?_; refine g_ml rfl rfl ?_) | refine a_p rfl ?_ | (refine k_g ?_; first | refine a_gy rfl rfl ?_ | refine a_gn rfl rfl ?_ | refine a_gu rfl ?_ | (refine a_gd rfl (fun hb => ?_) (fun hb => ?_) <;> try (exfalso; omega)) | (refine a_ge rfl (fun hb => ?_) (fun hb => ?_) <;> try (exfalso; omega)) | (refine a_gne rfl (fun hb => ?_) (fun hb => ?_) <;> try (exfalso; omega)) | (refine a_gnd rfl (fun hb => ?_) (fun hb => ?_) <;> try (exfalso; omega))) | (refine k_l ?_; first | refine g_l rfl ?_) | (refine k_i ?_; refine g_i rfl rfl ?_) | (refine k_ls ?_; refine g_ls rfl ?_) | (refine k_st ?_; first | refine g_st rfl rfl rfl rfl ?_ | refine g_sw rfl rfl rfl rfl (Nat.le_of_ble_eq_true rfl) ?_) | (refine k_al ?_; refine a_al ?_) | (refine k_bx ?_; refine a_bx rfl rfl ?_) | (refine k_bl ?_; refine a_bl rfl ?_) | (refine k_p ?_; first | (refine a_pd rfl (fun hb => ?_) (fun hb => ?_) <;> try (exfalso; omega)) | (refine a_pe rfl (fun hb => ?_) (fun hb => ?_) <;> try (exfalso; omega)) | (refine a_pne rfl (fun hb => ?_) (fun hb => ?_) <;> try (exfalso; omega)) | (refine a_pnd rfl (fun hb => ?_) (fun hb => ?_) <;> try (exfalso; omega))))
      | refine a_n ?_
      | (refine k_V ?_; first | refine v_rv ?_ | refine v_seq ?_ | refine v_reg ?_ | refine v_dreg ?_ | refine v_zreg ?_ | refine v_bs ?_ | refine v_br ?_ | refine v_bd ?_ | refine v_bc ?_ | refine v_bk ?_ | refine v_bb ?_ | refine v_ret ?_ | refine v_exit ?_ | refine v_skip ?_ | refine v_ct rfl ?_ | refine v_cf rfl ?_ | (refine v_cd rfl (fun hb => ?_) (fun hb => ?_) <;> try (exfalso; omega)) | (refine v_ce rfl (fun hb => ?_) (fun hb => ?_) <;> try (exfalso; omega)) | (refine v_cn rfl (fun hb => ?_) (fun hb => ?_) <;> try (exfalso; omega)) | (refine v_cnd rfl (fun hb => ?_) (fun hb => ?_) <;> try (exfalso; omega)))
      | refine s_n ?_
      | refine s_r ?_
      | refine s_e ?_
      | refine b_n ?_
      | refine b_r ?_
      | refine b_e ?_
      | refine b_o rfl ?_
      | refine r_rt ?_
      | refine r_bk rfl ?_
      | refine r_ex rfl rfl ?_
      | refine sk_zero ?_
      | refine sk_succ ?_
      | refine wk_nil ?_
      | refine wk_cons ?_)
    refine g_range x.xs.length (fun _ : Unit => [(0, .v (ptr a)), (84, .v (.slice x.cd.a x.xs.length x.cd.cap))]) (fun _ => [ro m]) (fun i _ => ∀ (j : Nat) c, j < i → x.H.cells[j]? = some c → c.color ≠ 1 ∧ (c.color = 2 → x.H.phase = 3 ∧ x.H.hand ≤ j)) () (fun j c hj => by omega) (fun i _ hi hw => ?_) (fun _ hw => ?_)
    · obtain ⟨y, gy, gc⟩ := HX.at hi
      repeat' (first
        | (refine k_L ?_; first | (refine k_ad ?_; refine g_ad rfl rfl ?_) | (refine k_su ?_; refine g_su rfl rfl ?_) | (refine k_ml ?_; refine g_ml rfl rfl ?_) | refine a_p rfl ?_ | (refine k_g ?_; first | refine a_gy rfl rfl ?_ | refine a_gn rfl rfl ?_ | refine a_gu rfl ?_ | (refine a_gd rfl (fun hb => ?_) (fun hb => ?_) <;> try (exfalso; omega)) | (refine a_ge rfl (fun hb => ?_) (fun hb => ?_) <;> try (exfalso; omega)) | (refine a_gne rfl (fun hb => ?_) (fun hb => ?_) <;> try (exfalso; omega)) | (refine a_gnd rfl (fun hb => ?_) (fun hb => ?_) <;> try (exfalso; omega))) | (refine k_l ?_; first | refine g_l rfl ?_) | (refine k_i ?_; refine g_i rfl rfl ?_) | (refine k_ls ?_; refine g_ls rfl ?_) | (refine k_st ?_; first | refine g_st rfl rfl rfl rfl ?_ | refine g_sw rfl rfl rfl rfl (Nat.le_of_ble_eq_true rfl) ?_) | (refine k_al ?_; refine a_al ?_) | (refine k_bx ?_; refine a_bx rfl rfl ?_) | (refine k_bl ?_; refine a_bl rfl ?_) | (refine k_p ?_; first | (refine a_pd rfl (fun hb => ?_) (fun hb => ?_) <;> try (exfalso; omega)) | (refine a_pe rfl (fun hb => ?_) (fun hb => ?_) <;> try (exfalso; omega)) | (refine a_pne rfl (fun hb => ?_) (fun hb => ?_) <;> try (exfalso; omega)) | (refine a_pnd rfl (fun hb => ?_) (fun hb => ?_) <;> try (exfalso; omega))))
        | refine a_n ?_
        | (refine k_V ?_; first | refine v_rv ?_ | refine v_seq ?_ | refine v_reg ?_ | refine v_dreg ?_ | refine v_zreg ?_ | refine v_bs ?_ | refine v_br ?_ | refine v_bd ?_ | refine v_bc ?_ | refine v_bk ?_ | refine v_bb ?_ | refine v_ret ?_ | refine v_exit ?_ | refine v_skip ?_ | refine v_ct rfl ?_ | refine v_cf rfl ?_ | (refine v_cd rfl (fun hb => ?_) (fun hb => ?_) <;> try (exfalso; omega)) | (refine v_ce rfl (fun hb => ?_) (fun hb => ?_) <;> try (exfalso; omega)) | (refine v_cn rfl (fun hb => ?_) (fun hb => ?_) <;> try (exfalso; omega)) | (refine v_cnd rfl (fun hb => ?_) (fun hb => ?_) <;> try (exfalso; omega)))
        | refine s_n ?_
        | refine s_r ?_
        | refine s_e ?_
        | refine b_n ?_
        | refine b_r ?_
        | refine b_e ?_
        | refine b_o rfl ?_
        | refine r_rt ?_
        | refine r_bk rfl ?_
        | refine r_ex rfl rfl ?_
        | refine sk_zero ?_
        | refine sk_succ ?_
        | refine wk_nil ?_
        | refine wk_cons ?_)
      · exact q_F fun h5 => absurd ‹y.c.color = 1› ((h5.else_ ‹_›).2 i _ gc).1
      · exact q_F fun h5 => absurd (((h5.else_ ‹_›).2 i _ gc).2 ‹_›).1 ‹_›
      · exact q_F fun h5 => absurd (((h5.else_ ‹_›).2 i _ gc).2 ‹_›).2 (by show ¬ x.hdr.hand ≤ _; omega)
      all_goals refine r_nx () (fun j c hj hc => ?_)
      all_goals (by_cases e : j = i; (subst e; rw [gc] at hc; cases hc; first | exact ⟨‹_›, fun _ => ⟨‹_›, by show x.hdr.hand ≤ _; omega⟩⟩ | exact ⟨‹_›, fun hk => absurd hk ‹_›⟩); exact hw j c (by omega) hc)
    · repeat' (first
        | (refine k_L ?_; first | (refine k_ad ?_; refine g_ad rfl rfl ?_) | (refine k_su ?_; refine g_su rfl rfl ?_) | (refine k_ml ?_; refine g_ml rfl rfl ?_) | refine a_p rfl ?_ | (refine k_g ?_; first | refine a_gy rfl rfl ?_ | refine a_gn rfl rfl ?_ | refine a_gu rfl ?_ | (refine a_gd rfl (fun hb => ?_) (fun hb => ?_) <;> try (exfalso; omega)) | (refine a_ge rfl (fun hb => ?_) (fun hb => ?_) <;> try (exfalso; omega)) | (refine a_gne rfl (fun hb => ?_) (fun hb => ?_) <;> try (exfalso; omega)) | (refine a_gnd rfl (fun hb => ?_) (fun hb => ?_) <;> try (exfalso; omega))) | (refine k_l ?_; first | refine g_l rfl ?_) | (refine k_i ?_; refine g_i rfl rfl ?_) | (refine k_ls ?_; refine g_ls rfl ?_) | (refine k_st ?_; first | refine g_st rfl rfl rfl rfl ?_ | refine g_sw rfl rfl rfl rfl (Nat.le_of_ble_eq_true rfl) ?_) | (refine k_al ?_; refine a_al ?_) | (refine k_bx ?_; refine a_bx rfl rfl ?_) | (refine k_bl ?_; refine a_bl rfl ?_) | (refine k_p ?_; first | (refine a_pd rfl (fun hb => ?_) (fun hb => ?_) <;> try (exfalso; omega)) | (refine a_pe rfl (fun hb => ?_) (fun hb => ?_) <;> try (exfalso; omega)) | (refine a_pne rfl (fun hb => ?_) (fun hb => ?_) <;> try (exfalso; omega)) | (refine a_pnd rfl (fun hb => ?_) (fun hb => ?_) <;> try (exfalso; omega))))
        | refine a_n ?_
        | (refine k_V ?_; first | refine v_rv ?_ | refine v_seq ?_ | refine v_reg ?_ | refine v_dreg ?_ | refine v_zreg ?_ | refine v_bs ?_ | refine v_br ?_ | refine v_bd ?_ | refine v_bc ?_ | refine v_bk ?_ | refine v_bb ?_ | refine v_ret ?_ | refine v_exit ?_ | refine v_skip ?_ | refine v_ct rfl ?_ | refine v_cf rfl ?_ | (refine v_cd rfl (fun hb => ?_) (fun hb => ?_) <;> try (exfalso; omega)) | (refine v_ce rfl (fun hb => ?_) (fun hb => ?_) <;> try (exfalso; omega)) | (refine v_cn rfl (fun hb => ?_) (fun hb => ?_) <;> try (exfalso; omega)) | (refine v_cnd rfl (fun hb => ?_) (fun hb => ?_) <;> try (exfalso; omega)))
        | refine s_n ?_
        | refine s_r ?_
        | refine s_e ?_
        | refine b_n ?_
        | refine b_r ?_
        | refine b_e ?_
        | refine b_o rfl ?_
        | refine r_rt ?_
        | refine r_bk rfl ?_
        | refine r_ex rfl rfl ?_
        | refine sk_zero ?_
        | refine sk_succ ?_
        | refine wk_nil ?_
        | refine wk_cons ?_)
      refine q_B (fun _ _ => rfl) ?_
      have hng : x.hdr.ng = x.H.gray.length := rfl
      constructor
      · intro he
        have : x.H.gray = [] := List.eq_nil_of_length_eq_zero (by rw [← hng]; simpa using he)
        exact ⟨fun hm => absurd hm hmk, fun _ => ⟨this, fun i c hc => hw i c (by have := (List.getElem?_eq_some_iff.1 hc).1; omega) hc⟩⟩
      · intro h5
        have := (h5.else_ hmk).1
        rw [hng, this]; rfl
end Go.Proofs.Ytcmllambknfleaa.E
