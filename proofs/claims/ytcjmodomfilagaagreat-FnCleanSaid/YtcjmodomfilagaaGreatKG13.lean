/- A part of the proof. Conditions: none. -/
import Derived.Test.YtcjmodomfilagaaGreatKG12
set_option maxRecDepth 100000
set_option linter.unusedVariables false
namespace Go.Proofs.YtcjmodomfilagaaGreat.E
open Go
noncomputable def e140:Env:=⟨Tryz.prog,[],25,[]⟩
abbrev zR(a0:Nat)(a1:Nat)(a2:Nat)(a3:Int):I:=⟨some a0,none,.call a1 [.tmp a2,.const (.int .i64 a3)]⟩
abbrev zn(a0:Nat)(a1:Nat)(a2:Int):I:=⟨some a0,none,.call a1 [.const (.int .i64 a2)]⟩
abbrev zt(a0:Nat)(a1:Nat)(a2:Int):I:=⟨none,none,.store a0 (.tmp a1) (.const (.int .i64 a2))⟩
abbrev qR(a0:Nat)(a1:Int)(a2:Int):I:=⟨some a0,none,.alloc true [.int .i64 a1,.int .i64 a2]⟩
abbrev qW(a0:Nat)(a1:Int)(a2:Int)(a3:Int)(a4:Nat)(a5:Nat)(a6:Nat)(a7:Nat)(a8:Int)(a9:Int)(a10:Int)(a11:Nat)(a12:Nat)(a13:Int)(a14:Int)(a15:Int)(a16:Int):I:=⟨some a0,none,.alloc true [.int .i64 a1,.int .i64 a2,.int .i64 a3,.slice none a4 a5,.slice none a6 a7,.int .i64 a8,.int .i64 a9,.int .i64 a10,.slice none a11 a12,.int .i64 a13,.int .i64 a14,.int .i64 a15,.int .i64 a16]⟩
abbrev qr(a0:Nat)(a1:Nat)(a2:Nat)(a3:Int)(a4:Int)(a5:Int)(a6:Int)(a7:Int)(a8:Int)(a9:Nat)(a10:Nat):I:=⟨some a0,none,.app a1 a2 [.int .i64 a3,.int .i64 a4,.int .i64 a5,.int .i64 a6,.int .i64 a7,.int .i64 a8] (.tmp a9) (.tmp a10)⟩
abbrev qt(a0:Nat)(a1:Int)(a2:Int)(a3:Int)(a4:Int)(a5:Int)(a6:Int)(a7:Int)(a8:Nat)(a9:Nat):I:=⟨some a0,none,.build [.int .i64 a1,.int .i64 a2,.int .i64 a3,.int .i64 a4,.int .i64 a5,.int .i64 a6,.int .i64 a7,.slice none a8 a9] []⟩
abbrev j8(a0:Nat)(a1:Int)(a2:Int)(a3:Nat)(a4:Nat)(a5:Nat):I:=⟨some a0,none,.build [.int .i64 a1,.int .i64 a2] [(a3,a4,.tmp a5)]⟩
abbrev j9(a0:Nat)(a1:Nat)(a2:Nat):I:=⟨some a0,none,.bslice false a1 a2 [] []⟩
abbrev jA(a0:Nat)(a1:Nat)(a2:Nat)(a3:Int)(a4:Int)(a5:Int)(a6:Int)(a7:Int)(a8:Int)(a9:Int)(a10:Nat)(a11:Nat)(a12:Nat)(a13:Nat)(a14:Nat):I:=⟨some a0,none,.bslice true a1 a2 [.int .i64 a3,.int .i64 a4,.int .i64 a5,.int .i64 a6,.int .i64 a7,.int .i64 a8,.int .i64 a9,.slice none a10 a11] [(a12,a13,.tmp a14)]⟩
abbrev jB(a0:Nat)(a1:Nat)(a2:Nat)(a3:Int)(a4:Int)(a5:Int)(a6:Int)(a7:Int)(a8:Int)(a9:Int)(a10:Nat)(a11:Nat)(a12:Nat)(a13:Nat):I:=⟨some a0,none,.app a1 a2 [.int .i64 a3,.int .i64 a4,.int .i64 a5,.int .i64 a6,.int .i64 a7,.int .i64 a8,.int .i64 a9,.slice none a10 a11] (.tmp a12) (.tmp a13)⟩
noncomputable def c140:C:=
 .seq (.reg [zJ 2,zJ 3]) (.seq (.seq (.reg [z3 4 0]) (.block 0 (.seq (.seq (.reg [z7 6 4 1,z3 5 6]) (.cond (.tmp 5) .skip (.seq (.reg [z7 7 4 2,z3 5 7]) (.cond (.tmp 5) .skip (.seq (.reg [z7 8 4 3,z3 5 8]) (.cond (.tmp 5) .skip (.seq (.reg [z7 9 4 9,z3 5 9]) (.cond (.tmp 5) .skip (.seq (.reg [z7 10 4 10,z3 5 10]) (.cond (.tmp 5) .skip (.seq (.reg [z7 11 4 11,z3 5 11]) (.cond (.tmp 5) .skip
 (.seq (.reg [z7 12 4 12,z3 5 12]) (.cond (.tmp 5) .skip (.seq (.reg [z7 13 4 14,z3 5 13]) (.cond (.tmp 5) .skip (.seq (.reg [z7 14 4 15,z3 5 14]) (.cond (.tmp 5) .skip (.seq (.reg [z7 15 4 16,z3 5 15]) (.cond (.tmp 5) .skip (.seq (.reg [z7 16 4 17,z3 5 16]) (.cond (.tmp 5) .skip (.reg [z7 17 4 19,z3 5 17]))))))))))))))))))))))) (.cond (.tmp 5) (.seq (.reg [zY 2,zJ 3]) .ret) (.seq (.seq
 (.reg [z7 19 4 4,z3 18 19]) (.cond (.tmp 18) .skip (.seq (.reg [z7 20 4 5,z3 18 20]) (.cond (.tmp 18) .skip (.seq (.reg [z7 21 4 6,z3 18 21]) (.cond (.tmp 18) .skip (.seq (.reg [z7 22 4 7,z3 18 22]) (.cond (.tmp 18) .skip (.seq (.reg [z7 23 4 8,z3 18 23]) (.cond (.tmp 18) .skip (.reg [z7 24 4 13,z3 18 24]))))))))))) (.cond (.tmp 18) (.seq (.reg [zY 2,zY 3]) .ret) .skip)))))) (.seq (.reg [
 zJ 2,zJ 3]) .ret))
theorem t140:Tryz.f140.body.bind (trC e140)=some c140:=by kernel_rfl
theorem r140:Tryz.f140.results.toList.mapM (trR Tryz.prog)=some [.tmp 2,.tmp 3]:=by kernel_rfl
theorem fn140{args:List Value}{M:Mem}{post:Value→Mem→Prop}(hl:args.length≤25)(h:VC e140 c140 (fnQ [.tmp 2,.tmp 3] post) (initS args 25) M):Fn Tryz.prog 140 args M post:=
 Fn.of' (E:=e140) Tryz.func140 t140 rfl r140 mixed hl h
noncomputable def e141:Env:=⟨Tryz.prog,[],26,[]⟩
noncomputable def c141:C:=
 .seq (.reg [zD 2 0,zD 3 0]) (.seq (.seq (.reg [z3 4 0]) (.block 0 (.seq (.reg [z7 6 4 1,z3 5 6]) (.cond (.tmp 5) (.seq (.reg [zD 2 255,zD 3 200]) .ret) (.seq (.seq (.reg [z7 8 4 5,z3 7 8]) (.cond (.tmp 7) .skip (.seq (.reg [z7 9 4 6,z3 7 9]) (.cond (.tmp 7) .skip (.seq (.reg [z7 10 4 7,z3 7 10]) (.cond (.tmp 7) .skip (.reg [z7 11 4 8,z3 7 11]))))))) (.cond (.tmp 7) (.seq (.reg [zD 2 15,
 zD 3 199]) .ret) (.seq (.seq (.reg [z7 13 4 4,z3 12 13]) (.cond (.tmp 12) .skip (.reg [z7 14 4 13,z3 12 14]))) (.cond (.tmp 12) (.seq (.reg [zD 2 15,zD 3 0]) .ret) (.seq (.seq (.reg [z7 16 4 9,z3 15 16]) (.cond (.tmp 15) .skip (.reg [z7 17 4 10,z3 15 17]))) (.cond (.tmp 15) (.seq (.reg [zD 2 0,zD 3 200]) .ret) (.seq (.reg [z7 19 4 11,z3 18 19]) (.cond (.tmp 18) (.seq (.reg [zD 2 0,zD 3
 3]) .ret) (.seq (.reg [z7 21 4 12,z3 20 21]) (.cond (.tmp 20) (.seq (.reg [zD 2 0,zD 3 1]) .ret) (.seq (.reg [z7 23 4 22,z3 22 23]) (.cond (.tmp 22) (.seq (.reg [zD 2 0,zD 3 100000]) .ret) (.seq (.reg [z7 25 4 23,z3 24 25]) (.cond (.tmp 24) (.seq (.reg [zD 2 64,zD 3 4000]) .ret) .skip)))))))))))))))))) (.seq (.reg [zD 2 0,zD 3 0]) .ret))
theorem t141:Tryz.f141.body.bind (trC e141)=some c141:=by kernel_rfl
theorem r141:Tryz.f141.results.toList.mapM (trR Tryz.prog)=some [.tmp 2,.tmp 3]:=by kernel_rfl
theorem fn141{args:List Value}{M:Mem}{post:Value→Mem→Prop}(hl:args.length≤26)(h:VC e141 c141 (fnQ [.tmp 2,.tmp 3] post) (initS args 26) M):Fn Tryz.prog 141 args M post:=
 Fn.of' (E:=e141) Tryz.func141 t141 rfl r141 mixed hl h
noncomputable def e133:Env:=⟨Tryz.prog,[1],63,[]⟩
noncomputable def c133:C:=
 .seq (.reg [za 1 0,zJ 2]) (.seq (.seq (.reg [z4 7 0 1,z5 8 1 7,qO 9 8 1,z3 10 9,zF 11 10 0 1,zK 12 10 1 11,qY 13 10 12 24,zN 14 10 13,z3 15 14,zF 16 15 0 1,zK 17 15 1 16,zo 18 15 17 2,zP 19 15 18,zE 20 19 4 1,zC 21 19 1 20,q9 22 19 21 0,qC 23 15 19 22,zN 24 15 23]) (.cond (.tmp 24) (.seq (.reg [zJ 2]) .ret) .skip)) (.seq (.reg [z4 26 0 1,z5 27 1 26,zM 28 140 27,z3 25 28,qQ 29 25 0,qQ 30 25 1,
 z3 3 29,z3 4 30]) (.seq (.seq (.reg [z3 31 3,z3 32 31,zE 33 32 1 1,zC 34 32 1 33,qM 35 32 113 34 0 15,qH 36 32 35,zL 37 32 36,z3 38 37,zP 39 38 3,zf 40 38 39,zP 41 38 40,zE 42 41 1 1,zC 43 41 1 42,q9 44 41 43 0,qC 45 38 41 44,zN 46 38 45]) (.cond (.tmp 46) (.seq (.reg [zJ 2]) .ret) .skip)) (.seq (.reg [z4 48 0 1,z5 49 1 48,zM 50 141 49,z3 47 50,qQ 51 47 0,qQ 52 47 1,z3 5 51,z3 6 52]) (.seq
 (.reg [z4 53 2 1,z5 54 1 53,z3 55 5,j4 56 113 54 0 55,z3 57 56,zE 58 57 3 1,zC 59 57 1 58,zI 60 57 6,⟨some 61,some (57,true),.call 113 [.tmp 59,.const (.int .i64 0),.tmp 60]⟩,zL 62 57 61,z3 2 62]) .ret)))))
theorem t133:Tryz.f133.body.bind (trC e133)=some c133:=by kernel_rfl
theorem r133:Tryz.f133.results.toList.mapM (trR Tryz.prog)=some [.tmp 2]:=by kernel_rfl
theorem fn133{args:List Value}{M:Mem}{post:Value→Mem→Prop}(hl:args.length≤63)(h:VC e133 c133 (fnQ [.tmp 2] post) (initS args 63) M):Fn Tryz.prog 133 args M post:=
 Fn.of' (E:=e133) Tryz.func133 t133 rfl r133 mixed hl h
noncomputable def e138:Env:=⟨Tryz.prog,[2],5,[]⟩
noncomputable def c138:C:=
 .seq (.reg [qR 2 0 0]) (.seq (.reg [z3 3 0,j8 4 0 0 1 1 3,z8 2 2 4]) .ret)
theorem t138:Tryz.f138.body.bind (trC e138)=some c138:=by kernel_rfl
theorem r138:Tryz.f138.results.toList.mapM (trR Tryz.prog)=some [.cell 2 false 2]:=by kernel_rfl
theorem fn138{args:List Value}{M:Mem}{post:Value→Mem→Prop}(hl:args.length≤5)(h:VC e138 c138 (fnQ [.cell 2 false 2] post) (initS args 5) M):Fn Tryz.prog 138 args M post:=
 Fn.of' (E:=e138) Tryz.func138 t138 rfl r138 mixed hl h
noncomputable def e134:Env:=⟨Tryz.prog,[2],5,[]⟩
noncomputable def c134:C:=
 .seq (.reg [qR 2 0 0]) (.seq (.reg [z3 3 0,j8 4 0 0 0 1 3,z8 2 2 4]) .ret)
theorem t134:Tryz.f134.body.bind (trC e134)=some c134:=by kernel_rfl
theorem r134:Tryz.f134.results.toList.mapM (trR Tryz.prog)=some [.cell 2 false 2]:=by kernel_rfl
theorem fn134{args:List Value}{M:Mem}{post:Value→Mem→Prop}(hl:args.length≤5)(h:VC e134 c134 (fnQ [.cell 2 false 2] post) (initS args 5) M):Fn Tryz.prog 134 args M post:=
 Fn.of' (E:=e134) Tryz.func134 t134 rfl r134 mixed hl h
noncomputable def e142:Env:=⟨Tryz.prog,[],41,[(1,11),(6,11)]⟩
noncomputable def c142:C:=
 .seq (.reg [zJ 4]) (.seq (.seq (.dreg 11 [z3 5 0,z6 6 5,z4 7 1 6,z5 8 1 7,z3 9 1,q8 10 8 9,z3 11 0,z6 12 11,z4 13 0 12,z5 14 1 13,qT 15 10 14]) (.cond (.tmp 15) (.seq (.reg [zY 4]) .ret) .skip)) (.seq (.seq (.reg [z3 16 0,z6 17 16,z4 18 12 17,z5 19 1 18,qO 20 19 1000000000]) (.cond (.tmp 20) (.reg [z3 21 0,z6 22 21,z4 23 12 22,z5 24 1 23,zO 25 24 1,z6 26 21,z4 27 12 26,z8 1 27 25]) .skip))
 (.seq (.reg [z3 28 0,zM 29 55 28]) (.seq (.dreg 11 [z3 30 0,z6 31 30,z4 32 1 31,z5 33 1 32,z3 34 1,q8 35 33 34,z3 36 0,z6 37 36,z4 38 0 37,z5 39 1 38,qT 40 35 39,z3 4 40]) .ret))))
theorem t142:Tryz.f142.body.bind (trC e142)=some c142:=by kernel_rfl
theorem r142:Tryz.f142.results.toList.mapM (trR Tryz.prog)=some [.tmp 4]:=by kernel_rfl
theorem fn142{args:List Value}{M:Mem}{post:Value→Mem→Prop}(hl:args.length≤41)(h:VC e142 c142 (fnQ [.tmp 4] post) (initS args 41) M):Fn Tryz.prog 142 args M post:=
 Fn.of' (E:=e142) Tryz.func142 t142 rfl r142 mixed hl h
noncomputable def e143:Env:=⟨Tryz.prog,[],37,[(2,9)]⟩
noncomputable def c143:C:=
 .seq (.seq (.reg [z3 4 0,z6 5 4,z4 6 9 5,z5 7 1 6,z7 8 7 0,z3 9 8,zP 10 9 1,zx 11 9 10 0,zN 12 9 11]) (.cond (.tmp 12) .ret .skip)) (.seq (.seq (.reg [z3 13 0,z6 14 13,z4 15 5 14,z5 16 1 15,z7 17 16 0]) (.cond (.tmp 17) (.seq (.seq (.dreg 9 [z3 18 0,z6 19 18,z4 20 1 19,z5 21 1 20,z3 22 0,z6 23 22,z4 24 10 23,z5 25 1 24,qT 26 21 25]) (.cond (.tmp 26) .ret .skip)) (.reg [z3 27 0,zM 28 60 27]))
 .skip)) (.reg [z3 29 0,z3 30 0,z6 31 30,z4 32 9 31,z5 33 1 32,z3 34 1,⟨some 35,none,.bin .mul (.tmp 33) (.tmp 34)⟩,zU 36 50 29 35]))
theorem t143:Tryz.f143.body.bind (trC e143)=some c143:=by kernel_rfl
theorem r143:Tryz.f143.results.toList.mapM (trR Tryz.prog)=some []:=by kernel_rfl
theorem fn143{args:List Value}{M:Mem}{post:Value→Mem→Prop}(hl:args.length≤37)(h:VC e143 c143 (fnQ [] post) (initS args 37) M):Fn Tryz.prog 143 args M post:=
 Fn.of' (E:=e143) Tryz.func143 t143 rfl r143 mixed hl h
noncomputable def e145:Env:=⟨Tryz.prog,[],30,[]⟩
noncomputable def c145:C:=
 .block 0 (.loop (.seq (.seq (.reg [z3 6 0,z6 7 6,z4 8 4 7,z5 9 1 8,z3 10 1,z9 11 8 9 10,z4 12 7 11,z5 13 1 12,zG 14 13,z3 15 2,⟨some 16,none,.bin .gtr (.tmp 14) (.tmp 15)⟩]) (.cond (.tmp 16) .skip (.exit 0))) (.block 1 (.reg [z3 17 0,z3 18 1,z3 19 0,z6 20 19,z4 21 4 20,z5 22 1 21,z3 23 1,z9 24 8 22 23,z4 25 7 24,z5 26 1 25,zG 27 26,zc 28 27 1,qS 29 79 17 18 28]))))
theorem t145:Tryz.f145.body.bind (trC e145)=some c145:=by kernel_rfl
theorem r145:Tryz.f145.results.toList.mapM (trR Tryz.prog)=some []:=by kernel_rfl
theorem fn145{args:List Value}{M:Mem}{post:Value→Mem→Prop}(hl:args.length≤30)(h:VC e145 c145 (fnQ [] post) (initS args 30) M):Fn Tryz.prog 145 args M post:=
 Fn.of' (E:=e145) Tryz.func145 t145 rfl r145 mixed hl h
noncomputable def e139:Env:=⟨Tryz.prog,[4],34,[]⟩
noncomputable def c139:C:=
 .seq (.reg [qR 4 0 0]) (.seq (.reg [z3 6 0,zM 7 38 6,z3 5 7]) (.seq (.seq (.reg [z3 8 5,qO 9 8 0]) (.cond (.tmp 9) (.seq (.reg [z3 10 0,z6 11 10,z4 12 3 11,z5 13 1 12,z3 14 1,⟨some 15,none,.build [.int .i64 0,.int .i64 0,.int .i64 0] []⟩,z9 16 3 13 14,z8 3 16 15]) (.seq (.reg [zn 17 138 0,z8 2 4 17]) .ret)) .skip)) (.seq (.reg [z3 18 0,z6 19 18,z4 20 4 19,z5 21 1 20,z3 22 5,z9 23 8 21 22,z4
 24 3 23,zt 1 24 3]) (.seq (.reg [z3 25 0,z6 26 25,z4 27 3 26,z5 28 1 27,z3 29 1,z3 30 5,qG 31 0 0 0 0 1 2 2 1 30,z9 32 3 28 29,z8 3 32 31]) (.seq (.reg [zn 33 138 1,z8 2 4 33]) .ret)))))
theorem t139:Tryz.f139.body.bind (trC e139)=some c139:=by kernel_rfl
theorem r139:Tryz.f139.results.toList.mapM (trR Tryz.prog)=some [.cell 4 false 2]:=by kernel_rfl
theorem fn139{args:List Value}{M:Mem}{post:Value→Mem→Prop}(hl:args.length≤34)(h:VC e139 c139 (fnQ [.cell 4 false 2] post) (initS args 34) M):Fn Tryz.prog 139 args M post:=
 Fn.of' (E:=e139) Tryz.func139 t139 rfl r139 mixed hl h
noncomputable def e136:Env:=⟨Tryz.prog,[3,4,7],136,[(7,12),(9,13),(11,9),(13,11),(16,11),(19,9),(20,12),(21,9)]⟩
noncomputable def c136:C:=
 .seq (.reg [za 3 1,qR 4 0 0]) (.seq (.reg [z4 8 1 3,z5 9 1 8,z3 5 9]) (.seq (.seq (.reg [z4 10 0 3,z5 11 1 10,z7 12 11 5,z3 13 12,zF 14 13 0 3,zK 15 13 1 14,zx 16 13 15 6,zN 17 13 16]) (.cond (.tmp 17) (.reg [z4 18 2 3,z5 19 1 18,z3 5 19]) .skip)) (.seq (.seq (.reg [z3 20 0,z6 21 20,z4 22 3 21,z5 23 1 22,z3 24 5,z9 25 3 23 24,z4 26 0 25,z5 27 1 26,zj 28 27 2]) (.cond (.tmp 28) (.seq (.reg [
 zn 29 134 2,z8 2 4 29]) .ret) .skip)) (.seq (.reg [z3 30 0,z6 31 30,z4 32 3 31,z5 33 1 32,z3 34 5,z9 35 3 33 34,z4 36 2 35,z5 37 1 36,z3 6 37]) (.seq (.seq (.dreg 12 [z4 38 3 3,z5 39 1 38,z3 40 0,z6 41 40,z4 42 4 41,z5 43 1 42,z3 44 6,z9 45 8 43 44,z4 46 7 45,z5 47 1 46,zG 48 47,qd 49 39 48]) (.cond (.tmp 49) (.seq (.reg [zn 50 134 3,z8 2 4 50]) .ret) .skip)) (.seq (.dreg 13 [z3 51 0,z6 52 51,
 z4 53 4 52,z5 54 1 53,z3 55 6,z9 56 8 54 55,z4 57 7 56,z5 58 1 57,z4 59 3 3,z5 60 1 59,z9 61 6 58 60,zA 62 6 61,q6 7 0 0 0 0 0 0,z8 6 7 62]) (.seq (.seq (.reg [z4 63 0 3,z5 64 1 63]) (.block 0 (.seq (.reg [z7 75 64 5,z3 74 75]) (.cond (.tmp 74) (.seq (.dreg 11 [z3 76 0,z6 77 76,z4 78 3 77,z5 79 1 78,z4 80 1 3,z5 81 1 80,z3 82 0,z4 83 0 7,zA 84 3 83,qU 85 122 82 84,z9 86 3 79 81,z8 3 86 85])
 (.seq (.reg [zn 87 138 0,z8 2 4 87]) .ret)) (.seq (.reg [z7 89 64 6,z3 88 89]) (.cond (.tmp 88) (.seq (.dreg 11 [z3 90 0,z6 91 90,z4 92 3 91,z5 93 1 92,z4 94 1 3,z5 95 1 94,z3 96 0,z4 97 3 7,zA 98 3 97,qU 99 122 96 98,z9 100 3 93 95,z8 3 100 99]) (.seq (.reg [zn 101 138 0,z8 2 4 101]) .ret)) (.seq (.reg [z7 103 64 7,z3 102 103]) (.cond (.tmp 102) (.dreg 9 [z3 104 0,z6 105 104,z4 106 3 105,
 z5 107 1 106,z4 108 2 3,z5 109 1 108,z9 110 3 107 109,zA 111 3 110,z4 112 0 7,z8 3 112 111]) (.dreg 9 [z3 65 0,z6 66 65,z4 67 3 66,z5 68 1 67,z4 69 2 3,z5 70 1 69,z9 71 3 68 70,zA 72 3 71,z4 73 3 7,z8 3 73 72]))))))))) (.seq (.dreg 12 [z3 113 0,z6 114 113,z4 115 4 114,z5 116 1 115,z3 117 6,z9 118 8 116 117,z4 119 7 118,z5 120 1 119,z4 121 3 3,z5 122 1 121,zA 123 6 7,z9 124 6 120 122,z8 6 124
 123]) (.seq (.dreg 9 [z3 125 0,z3 126 0,z6 127 126,z4 128 3 127,z5 129 1 128,z4 130 2 3,z5 131 1 130,z9 132 3 129 131,zA 133 3 132,zU 134 128 125 133]) (.seq (.reg [zn 135 138 0,z8 2 4 135]) .ret))))))))))
theorem t136:Tryz.f136.body.bind (trC e136)=some c136:=by kernel_rfl
theorem r136:Tryz.f136.results.toList.mapM (trR Tryz.prog)=some [.cell 4 false 2]:=by kernel_rfl
theorem fn136{args:List Value}{M:Mem}{post:Value→Mem→Prop}(hl:args.length≤136)(h:VC e136 c136 (fnQ [.cell 4 false 2] post) (initS args 136) M):Fn Tryz.prog 136 args M post:=
 Fn.of' (E:=e136) Tryz.func136 t136 rfl r136 mixed hl h
noncomputable def e137:Env:=⟨Tryz.prog,[3,4,5],89,[(1,9),(10,10),(12,10),(16,10),(18,11)]⟩
noncomputable def c137:C:=
 .seq (.reg [za 3 1,qR 4 0 0]) (.seq (.dreg 9 [z3 6 0,z6 7 6,z4 8 3 7,z5 9 1 8,z4 10 1 3,z5 11 1 10,z9 12 3 9 11,zA 13 3 12,zp 5 0 0 0,z8 3 5 13]) (.seq (.seq (.reg [z4 14 0 5,z5 15 1 14,zj 16 15 2]) (.cond (.tmp 16) (.seq (.reg [zn 17 134 2,z8 2 4 17]) .ret) .skip)) (.seq (.seq (.reg [z4 18 0 3,z5 19 1 18]) (.block 0 (.seq (.reg [z7 21 19 9,z3 20 21]) (.cond (.tmp 20) (.seq (.reg [z3 22 0,
 zA 23 5 3,zU 24 144 22 23,z8 2 4 24]) .ret) (.seq (.reg [z7 26 19 10,z3 25 26]) (.cond (.tmp 25) (.reg [z3 27 0,z4 28 2 5,z5 29 1 28,z4 30 3 3,z5 31 1 30,qS 32 145 27 29 31]) (.seq (.reg [z7 34 19 11,z3 33 34]) (.cond (.tmp 33) (.dreg 10 [z3 35 0,z6 36 35,z4 37 4 36,z5 38 1 37,z4 39 2 5,z5 40 1 39,z4 41 3 3,z5 42 1 41,z9 43 8 38 40,z4 44 2 43,z8 1 44 42]) (.seq (.reg [z7 46 19 12,z3 45 46])
 (.cond (.tmp 45) (.seq (.dreg 10 [z3 47 0,z6 48 47,z4 49 4 48,z5 50 1 49,z4 51 2 5,z5 52 1 51,z4 53 3 3,z5 54 1 53,z9 55 8 50 52,z4 56 3 55,z8 1 56 54]) (.seq (.reg [z4 57 3 3,z5 58 1 57,z7 59 58 1]) (.cond (.tmp 59) (.reg [z3 60 0,zA 61 3 5,zU 62 128 60 61]) .skip))) (.seq (.reg [z7 64 19 16,z3 63 64]) (.cond (.tmp 63) (.seq (.dreg 10 [z3 65 0,z6 66 65,z4 67 4 66,z5 68 1 67,z4 69 2 5,z5 70
 1 69,z9 71 8 68 70,z4 72 1 71,z5 73 1 72,qK 74 138 73,z8 2 4 74]) .ret) (.seq (.reg [z7 76 19 17,z3 75 76]) (.cond (.tmp 75) (.seq (.dreg 11 [z3 77 0,z6 78 77,z4 79 4 78,z5 80 1 79,z4 81 2 5,z5 82 1 81,z9 83 8 80 82,z4 84 7 83,z5 85 1 84,zG 86 85,qK 87 138 86,z8 2 4 87]) .ret) .skip)))))))))))))) (.seq (.reg [zn 88 138 0,z8 2 4 88]) .ret))))
theorem t137:Tryz.f137.body.bind (trC e137)=some c137:=by kernel_rfl
theorem r137:Tryz.f137.results.toList.mapM (trR Tryz.prog)=some [.cell 4 false 2]:=by kernel_rfl
theorem fn137{args:List Value}{M:Mem}{post:Value→Mem→Prop}(hl:args.length≤89)(h:VC e137 c137 (fnQ [.cell 4 false 2] post) (initS args 89) M):Fn Tryz.prog 137 args M post:=
 Fn.of' (E:=e137) Tryz.func137 t137 rfl r137 mixed hl h
noncomputable def e130:Env:=⟨Tryz.prog,[3,4],180,[(7,10),(9,8),(11,15),(25,17),(28,10),(30,10),(32,10)]⟩
noncomputable def c130:C:=
 .seq (.reg [za 3 1,qR 4 0 0]) (.seq (.seq (.reg [zA 7 5 3,zM 8 133 7,zW 9 8]) (.cond (.tmp 9) (.seq (.reg [zn 10 134 1,z8 2 4 10]) .ret) .skip)) (.seq (.seq (.reg [z4 11 0 3,z5 12 1 11]) (.block 0 (.seq (.reg [z7 14 12 1,z3 13 14]) (.cond (.tmp 13) (.seq (.reg [z3 15 0,zA 16 5 3,zU 17 135 15 16,z8 2 4 17]) .ret) (.seq (.reg [z7 19 12 2,z3 18 19]) (.cond (.tmp 18) (.dreg 10 [z3 20 0,z6 21
 20,z4 22 3 21,z5 23 1 22,z4 24 1 3,z5 25 1 24,z4 26 4 3,z5 27 1 26,qG 28 0 0 0 0 1 1 1 1 27,z9 29 3 23 25,z8 3 29 28]) (.seq (.reg [z7 31 12 3,z3 30 31]) (.cond (.tmp 30) (.dreg 8 [z3 32 0,z6 33 32,z4 34 3 33,z5 35 1 34,z4 36 1 3,z5 37 1 36,⟨some 38,none,.build [.int .i64 0,.int .i64 0,.int .i64 0] []⟩,z9 39 3 35 37,z8 3 39 38]) (.seq (.reg [z7 41 12 4,z3 40 41]) (.cond (.tmp 40) (.dreg 15 [
 z3 42 0,z6 43 42,z4 44 3 43,z5 45 1 44,z4 46 1 3,z5 47 1 46,z3 48 0,z6 49 48,z4 50 3 49,z5 51 1 50,z4 52 2 3,z5 53 1 52,z9 54 3 51 53,zA 55 3 54,z9 56 3 45 47,z8 3 56 55]) (.seq (.seq (.reg [z7 58 12 5,z3 57 58]) (.cond (.tmp 57) .skip (.seq (.reg [z7 59 12 6,z3 57 59]) (.cond (.tmp 57) .skip (.seq (.reg [z7 60 12 7,z3 57 60]) (.cond (.tmp 57) .skip (.reg [z7 61 12 8,z3 57 61]))))))) (.cond
 (.tmp 57) (.seq (.reg [z3 62 0,zA 63 5 3,zU 64 136 62 63,z8 2 4 64]) .ret) (.seq (.seq (.reg [z7 66 12 9,z3 65 66]) (.cond (.tmp 65) .skip (.seq (.reg [z7 67 12 10,z3 65 67]) (.cond (.tmp 65) .skip (.seq (.reg [z7 68 12 11,z3 65 68]) (.cond (.tmp 65) .skip (.seq (.reg [z7 69 12 12,z3 65 69]) (.cond (.tmp 65) .skip (.seq (.reg [z7 70 12 16,z3 65 70]) (.cond (.tmp 65) .skip (.reg [z7 71 12
 17,z3 65 71]))))))))))) (.cond (.tmp 65) (.seq (.reg [z3 72 0,zA 73 5 3,zU 74 137 72 73,z8 2 4 74]) .ret) (.seq (.reg [z7 76 12 13,z3 75 76]) (.cond (.tmp 75) (.seq (.dreg 17 [z3 77 0,z6 78 77,z4 79 3 78,z5 80 1 79,z4 81 1 3,z5 82 1 81,z9 83 3 80 82,zA 84 3 83,z3 85 0,z6 86 85,z4 87 3 86,z5 88 1 87,z4 89 2 3,z5 90 1 89,z9 91 3 88 90,zA 92 3 91,⟨some 93,none,.eqA false 3 (.tmp 84) (.tmp 92)⟩])
 (.cond (.tmp 93) (.seq (.reg [zn 94 138 1,z8 2 4 94]) .ret) .skip)) (.seq (.reg [z7 96 12 14,z3 95 96]) (.cond (.tmp 95) (.seq (.dreg 10 [z3 97 0,z6 98 97,z4 99 3 98,z5 100 1 99,z4 101 1 3,z5 102 1 101,z9 103 3 100 102,z4 104 0 103,z5 105 1 104,qK 106 138 105,z8 2 4 106]) .ret) (.seq (.reg [z7 108 12 15,z3 107 108]) (.cond (.tmp 107) (.seq (.seq (.dreg 10 [z3 109 0,z6 110 109,z4 111 3 110,z5
 112 1 111,z4 113 1 3,z5 114 1 113,z9 115 3 112 114,z4 116 0 115,z5 117 1 116,zj 118 117 1]) (.cond (.tmp 118) (.seq (.reg [zn 119 134 2,z8 2 4 119]) .ret) .skip)) (.seq (.dreg 10 [z3 120 0,z6 121 120,z4 122 3 121,z5 123 1 122,z4 124 1 3,z5 125 1 124,z9 126 3 123 125,z4 127 1 126,z5 128 1 127,j8 129 0 0 1 1 128,z8 2 4 129]) .ret)) (.seq (.reg [z7 131 12 18,z3 130 131]) (.cond (.tmp 130) (.seq
 (.reg [z3 133 0,zM 134 32 133,z3 132 134,qQ 135 132 0,qQ 136 132 1,z3 5 135,z3 6 136]) (.seq (.reg [z3 137 6,zM 138 138 137,z8 2 4 138]) .ret)) (.seq (.reg [z7 140 12 19,z3 139 140]) (.cond (.tmp 139) (.seq (.reg [z3 141 0,z4 142 1 3,z5 143 1 142,zU 144 139 141 143,z8 2 4 144]) .ret) (.seq (.reg [z7 146 12 20,z3 145 146]) (.cond (.tmp 145) (.seq (.reg [z3 147 0,z3 148 0,zM 149 77 148,zU 150
 91 147 149,zM 151 138 150,z8 2 4 151]) .ret) (.seq (.reg [z7 153 12 21,z3 152 153]) (.cond (.tmp 152) (.seq (.reg [z3 154 0,zM 155 54 154,zM 156 138 155,z8 2 4 156]) .ret) (.seq (.reg [z7 158 12 22,z3 157 158]) (.cond (.tmp 157) (.reg [z3 159 0,z4 160 3 3,z5 161 1 160,zU 162 50 159 161]) (.seq (.reg [z7 164 12 23,z3 163 164]) (.cond (.tmp 163) (.seq (.reg [z3 165 0,z4 166 2 3,z5 167 1 166,
 z6 168 165,z4 169 9 168,z8 1 169 167]) (.reg [z3 170 0,z4 171 3 3,z5 172 1 171,z6 173 170,z4 174 10 173,z8 1 174 172])) (.seq (.reg [z7 176 12 24,z3 175 176]) (.cond (.tmp 175) (.reg [z3 177 0,zM 178 55 177]) .skip)))))))))))))))))))))))))))))))))) (.seq (.reg [zn 179 138 0,z8 2 4 179]) .ret)))
theorem t130:Tryz.f130.body.bind (trC e130)=some c130:=by kernel_rfl
theorem r130:Tryz.f130.results.toList.mapM (trR Tryz.prog)=some [.cell 4 false 2]:=by kernel_rfl
theorem fn130{args:List Value}{M:Mem}{post:Value→Mem→Prop}(hl:args.length≤180)(h:VC e130 c130 (fnQ [.cell 4 false 2] post) (initS args 180) M):Fn Tryz.prog 130 args M post:=
 Fn.of' (E:=e130) Tryz.func130 t130 rfl r130 mixed hl h
end Go.Proofs.YtcjmodomfilagaaGreat.E
set_option linter.unusedSimpArgs false
set_option maxHeartbeats 8000000
namespace Go.Proofs.YtcjmodomfilagaaGreat.E
open Go
open Classical
def an(c n:Int):Value:=.agg #[.int .i64 c,.int .i64 n]
def actV(a:Act):Value:=.agg (av a).toArray
theorem l5fine_q{m:Mem}{n:Int}:Qt Tryz.prog 138 [.int .i64 n] m (an 0 n):=by
 refine qt_of (fnA_of (fun h=>fn138 (by simp) h) ?_)
 repeat' (first
  |(refine k_L ?_;first|refine a_p rfl ?_|(refine k_st ?_;refine g_sw rfl rfl rfl rfl (Nat.le_of_ble_eq_true rfl) ?_)|(refine k_al ?_;refine a_al ?_))
  |refine a_n ?_
  |(refine k_V ?_;first|refine v_seq ?_|refine v_reg ?_|refine v_ret ?_)
  |refine sk_zero ?_
  |refine sk_succ ?_
  |refine wk_nil ?_
  |refine wk_cons ?_)
 exact fa_q (by simp) (fun _ _=>rfl) rfl
theorem l5bad_q{m:Mem}{n:Int}:Qt Tryz.prog 134 [.int .i64 n] m (an n 0):=by
 refine qt_of (fnA_of (fun h=>fn134 (by simp) h) ?_)
 repeat' (first
  |(refine k_L ?_;first|refine a_p rfl ?_|(refine k_st ?_;refine g_sw rfl rfl rfl rfl (Nat.le_of_ble_eq_true rfl) ?_)|(refine k_al ?_;refine a_al ?_))
  |refine a_n ?_
  |(refine k_V ?_;first|refine v_seq ?_|refine v_reg ?_|refine v_ret ?_)
  |refine sk_zero ?_
  |refine sk_succ ?_
  |refine wk_nil ?_
  |refine wk_cons ?_)
 exact fa_q (by simp) (fun _ _=>rfl) rfl
def rA(op:Int):Bool:=decide (op=1∨op=2∨op=3∨op=9∨op=10∨op=11∨op=12∨op=14∨op=15∨op=16∨op=17∨op=19)||rB op
where rB (op:Int):Bool:=decide (op=4∨op=5∨op=6∨op=7∨op=8∨op=13)
theorem l5reg_q{m:Mem}{op:Int}:Qt Tryz.prog 140 [.int .i64 op] m (.tuple #[.bool (rA op),.bool (rA.rB op)]):=by
 refine qt_of (fnA_of (fun h=>fn140 (by simp) h) ?_)
 repeat' (first
  |(refine k_L ?_;refine a_p rfl ?_)
  |refine a_n ?_
  |(refine k_V ?_;first|refine v_seq ?_|refine v_reg ?_|refine v_bs ?_|refine v_ret ?_|refine v_skip ?_|(refine v_cd rfl (fun hb=>?_) (fun hb=>?_)<;>try(exfalso;omega)))
  |refine s_r ?_
  |refine b_r ?_)
 all_goals exact fa_q (by simp) (fun _ _=>rfl) (by unfold rA rA.rB;simp_all<;>omega)
theorem l5most_q{m:Mem}{op:Int}:Qt Tryz.prog 141 [.int .i64 op] m (.tuple #[.int .i64 (bMost op),.int .i64 (cMost op)]):=by
 refine qt_of (fnA_of (fun h=>fn141 (by simp) h) ?_)
 repeat' (first
  |(refine k_L ?_;refine a_p rfl ?_)
  |refine a_n ?_
  |(refine k_V ?_;first|refine v_seq ?_|refine v_reg ?_|refine v_bs ?_|refine v_ret ?_|refine v_skip ?_|(refine v_cd rfl (fun hb=>?_) (fun hb=>?_)<;>try(exfalso;omega)))
  |refine s_r ?_
  |refine b_r ?_)
 all_goals exact fa_q (by simp) (fun _ _=>rfl) (by unfold bMost cMost;simp_all<;>omega)
theorem rA_most(op:Int)(h:1≤op∧op≤24):aMost op=if rA op=true then 15 else 0:=by
 unfold aMost rA rA.rB
 by_cases e:op=18∨20≤op
 ·rw[if_pos e,if_neg]
  simp only[Bool.or_eq_true,decide_eq_true_eq]
  omega
 ·rw[if_neg e,if_pos]
  simp only[Bool.or_eq_true,decide_eq_true_eq]
  omega
theorem specActOk_q{m:Mem}{a:Act}:Qt Tryz.prog 133 [actV a] m (.bool (decide (ActP a))):=by
 refine qt_of (fnA_of (fun h=>fn133 (by simp) h) ?_)
 have hm:=rA_most a.op
 cases hr:rA a.op with
 |true=>
  rw[hr,if_pos rfl]at hm
  repeat' (first
   |(refine k_L ?_;first|refine a_p rfl ?_|(refine k_g ?_;first|refine a_gy rfl rfl ?_|refine a_gn rfl rfl ?_|refine a_gu rfl ?_|(refine a_gd rfl (fun hb=>?_) (fun hb=>?_)<;>try(exfalso;omega))|(refine a_gne rfl (fun hb=>?_) (fun hb=>?_)<;>try(exfalso;omega))|(refine a_gnd rfl (fun hb=>?_) (fun hb=>?_)<;>try(exfalso;omega)))|(refine k_bx ?_;refine a_bx rfl rfl ?_)|(refine k_c ?_;first|refine a_cq rfl (fun m hm=>qt_e l5reg_q (by rw[hr])) ?_|refine a_cq rfl (fun m hm=>spec.l1inQ) ?_|refine a_cq rfl (fun m hm=>l5most_q) ?_))
   |refine a_n ?_
   |(refine k_V ?_;first|refine v_rv ?_|refine v_seq ?_|refine v_reg ?_|refine v_ret ?_|refine v_skip ?_|refine v_ct rfl ?_|refine v_cf rfl ?_|(refine v_cn rfl (fun hb=>?_) (fun hb=>?_)<;>try(exfalso;omega)))
   |refine s_r ?_)
  all_goals first
   |exact q_F (fun h=>by unfold ActP at h;omega)
   |exact q_B (fun _ _=>rfl) (by unfold ActP;rw[decide_eq_true_eq];omega)
 |false=>
  rw[hr,if_neg (by simp)]at hm
  repeat' (first
   |(refine k_L ?_;first|refine a_p rfl ?_|(refine k_g ?_;first|refine a_gy rfl rfl ?_|refine a_gn rfl rfl ?_|refine a_gu rfl ?_|(refine a_gd rfl (fun hb=>?_) (fun hb=>?_)<;>try(exfalso;omega))|(refine a_gne rfl (fun hb=>?_) (fun hb=>?_)<;>try(exfalso;omega)))|(refine k_bx ?_;refine a_bx rfl rfl ?_)|(refine k_c ?_;first|refine a_cq rfl (fun m hm=>qt_e l5reg_q (by rw[hr])) ?_|refine a_cq rfl (fun m hm=>spec.l1inQ) ?_|refine a_cq rfl (fun m hm=>l5most_q) ?_))
   |refine a_n ?_
   |(refine k_V ?_;first|refine v_rv ?_|refine v_seq ?_|refine v_reg ?_|refine v_ret ?_|refine v_skip ?_|refine v_ct rfl ?_|refine v_cf rfl ?_|(refine v_cn rfl (fun hb=>?_) (fun hb=>?_)<;>try(exfalso;omega)))
   |refine s_r ?_)
  all_goals first
   |exact q_F (fun h=>by unfold ActP at h;omega)
   |exact q_B (fun _ _=>rfl) (by unfold ActP;rw[decide_eq_true_eq];omega)
theorem reachL_at{H:Heap}{i:Nat}(h:(reachL H)[i]?=some true):Reached H i:=by
 unfold reachL at h
 rw[List.getElem?_map]at h
 by_cases hi:i<H.cells.length
 ·rw[List.getElem?_range hi]at h
  simpa using h
 ·rw[List.getElem?_eq_none (by simp;omega)]at h
  cases h
theorem l2live_a{m:Mem}{a:Nat}{x:HX}(h:Has m (hp a x))(h1:R1 x.H)(h2:R2 x.H)(h4:R4 x.H):FnA Tryz.prog 54 [ptr a] [ro m] (fun v As=>v=.int .i64 (sumT x.H (reachL x.H) x.xs.length)∧As=[ro m]):=by
 refine fnA_of (fun h=>fn54 (by simp) h) ?_
 repeat' (first
  |(refine k_L ?_;refine a_p rfl ?_)
  |refine a_n ?_
  |(refine k_V ?_;first|refine v_seq ?_|refine v_reg ?_))
 refine g_c rfl (l2reach_a h h1 h2 h4) (fun v As' hq=>?_)
 obtain⟨sd,kd,Q,rfl,rfl⟩:=hq
 repeat' (first
  |(refine k_L ?_;refine a_p rfl ?_)
  |refine a_n ?_
  |(refine k_V ?_;first|refine v_seq ?_|refine v_reg ?_))
 refine g_c rfl (l2sum_a (L:=reachL x.H) h h1 h2 (by rw[reachL_len,x.len]) (fun i c hi hc=>?_)) (fun v As' hq=>?_)
 ·obtain⟨c',hc',hs,_⟩:=reached_ok h2 h4 (reachL_at hi)
  rw[hc]at hc';cases hc';exact hs
 obtain⟨rfl,rfl⟩:=hq
 repeat' (first
  |(refine k_L ?_;refine a_p rfl ?_)
  |refine a_n ?_
  |(refine k_V ?_;refine v_ret ?_))
 exact fa_r (As':=[ro m]) (fun _ _=>rfl) (Pm.ent pmt) ⟨rfl,rfl⟩
theorem specLive_q{m:Mem}{x:HX}(h:Has m x.body):Qt Tryz.prog 22 [x.v] m (.int .i64 x.H.live):=by
 unfold Heap.live
 by_cases hS:okH x.H=0
 ·have hs1:=(okH_sound x.H).1 hS
  refine qt_of (fnA_of (fun h=>fn22 (by simp) h) ?_)
  refine v_seq (v_reg (a_nwh x rfl (fun b=>?_)))
  have hs:∀m',star [hdA b x.hdr,ro m] m'→Has m' (hp b x):=fun m' s=>has_new h s pmt (F:=[])
  have hr:∀m',star [hdA b x.hdr,ro m] m'→m.le m':=fun m' s=>ro_of s pmt (F:=[hdA b x.hdr])
  repeat' (first
   |(refine k_L ?_;first|refine a_p rfl ?_|(refine k_ls ?_;refine g_ls rfl ?_)|(refine k_c ?_;refine a_cq rfl (fun m hm=>qt_e (specHeapOk_q (x:=x) (has_g h hm)) (by rw[hS])) ?_))
   |refine a_n ?_
   |(refine k_V ?_;first|refine v_seq ?_|refine v_reg ?_|refine v_skip ?_|refine v_cf rfl ?_))
  refine l_fix (fun m' hm'=>?_)
  refine g_c rfl (l2live_a (hs m' hm') hs1.r1 hs1.r2 hs1.r4) (fun v As' hq=>?_)
  obtain⟨rfl,rfl⟩:=hq
  repeat' (first
   |(refine k_L ?_;refine a_p rfl ?_)
   |refine a_n ?_
   |(refine k_V ?_;refine v_ret ?_))
  exact fa_r (As':=[ro m]) (fun _ _=>rfl) ((Pm.ent (As1:=[ro m']) pmt).trans (ent_ro (hr m' hm'))) ⟨by rw[if_pos hS,x.len],rfl⟩
 ·refine qt_of (fnA_of (fun h=>fn22 (by simp) h) ?_)
  refine v_seq (v_reg (a_nwh x rfl (fun b=>?_)))
  repeat' (first
   |(refine k_L ?_;first|refine a_p rfl ?_|(refine k_ls ?_;refine g_ls rfl ?_)|(refine k_c ?_;refine a_cq rfl (fun m hm=>specHeapOk_q (x:=x) (has_g h hm)) ?_))
   |refine a_n ?_
   |(refine k_V ?_;first|refine v_rv ?_|refine v_seq ?_|refine v_reg ?_|(refine v_cn rfl (fun hb=>?_) (fun hb=>?_)<;>try(exfalso;omega)))
   |refine s_r ?_)
  exact fa_q (by simp) (fun _ _=>rfl) (by rw[if_neg hS])
section
variable {α:Type} {g:Int→α→α} {w:α→Int}
def mkG(g:Int→α→α)(w:α→Int):Int→List α→List α
 |_,[]=>[]
 |k,x::r=>g k x::mkG g w (k+w x) r
def mkT(w:α→Int):Int→List α→Int
 |k,[]=>k
 |k,x::r=>mkT w (k+w x) r
end
theorem OffL.refl(M:Mem)(L:List Nat):OffL M L M:=fun _ _ h _=>h
theorem OffL.trans{M0 M M':Mem}{L:List Nat}(h:OffL M0 L M)(o:OffL M L M'):OffL M0 L M':=fun c k e hc=>o c k (h c k e hc) hc
theorem OffL.mono{M M':Mem}{L L':List Nat}(h:OffL M L M')(l:∀b,b∈L→b∈L'):OffL M L' M':=fun c k e hc=>h c k e (fun m=>hc (l c m))
theorem OffL.le{M0 M M':Mem}{L:List Nat}(h:OffL M L M')(l:M0.le M)(hn:∀b,b∈L→M0 b=none):M0.le M':=fun c k e=>h c k (l c k e) (fun m=>by rw[hn c m]at e;cases e)
def gP(k:Int)(_:Pair):Pair:=⟨⟨k,k+1,k+1+1⟩,⟨k+1+1+1,k+1+1+1+1,k+1+1+1+1+1⟩⟩
def gA(k:Int)(_:Act):Act:=⟨k,k+1,k+1+1,k+1+1+1,k+1+1+1+1⟩
def wW(_:Word):Int:=3
def wP(_:Pair):Int:=6
def wI(_:Int):Int:=1
theorem mkT_const{α:Type}{w:α→Int}{c:Int}(h:∀x,w x=c):∀(xs:List α) (k:Int),mkT w k xs=k+c*xs.length
 |[],k=>by simp[mkT]
 |x::r,k=>by simp only[mkT,List.length_cons];rw[mkT_const h r,h,Int.natCast_add,Int.mul_add];omega
theorem Sl.congr{M:Mem}{α:Type}{f:α→List Value}{size:Nat}{v:Value}{xs ys:List α}(h:Sl M size f v xs)(e:xs.map f=ys.map f):Sl M size f v ys:=by
 have hl:xs.length=ys.length:=by have:=congrArg List.length e;simpa using this
 have hf:xs.flatMap f=ys.flatMap f:=by rw[List.flatMap_def,List.flatMap_def,e]
 rcases h with⟨c,h1,h2,rfl⟩|⟨b,o,cap,row,h1,hM,hc,h2,hr,he⟩
 ·exact .inl ⟨c,h1,h2,by cases ys with|nil=>rfl|cons y r=>simp at hl⟩
 ·rw[hl]at h1 hc h2 he
  exact .inr ⟨b,o,cap,row,h1,hM,hc,h2,hr,by rw[he,hf]⟩
def gC(k:Int)(c:Cell):Cell:=⟨k,k+1,k+1+1,k+1+1+1,k+1+1+1+1,k+1+1+1+1+1,k+1+1+1+1+1+1,mkG gP wP (k+1+1+1+1+1+1+1) c.pairs⟩
def wC(c:Cell):Int:=7+6*c.pairs.length
def endH(k:Int)(H:Heap):Int:=mkT wI (mkT wC (mkT wW k H.regs) H.cells) H.gray
theorem mkT_wC:∀(cs:List Cell) (k:Int),mkT wC k cs=k+7*cs.length+6*pairsN cs
 |[],k=>by simp[mkT,pairsN]
 |c::r,k=>by
  have e:pairsN (c::r)=c.pairs.length+pairsN r:=by simp[pairsN]
  simp only[mkT,List.length_cons,e];rw[mkT_wC r];simp only[wC,Int.natCast_add];omega
theorem endH_eq(k:Int)(H:Heap):endH k H=k+3*H.regs.length+7*H.cells.length+6*pairsN H.cells+H.gray.length:=by
 unfold endH
 rw[mkT_const (w:=wI) (c:=1) (fun _=>rfl),mkT_wC,mkT_const (w:=wW) (c:=3) (fun _=>rfl)];omega
theorem fna_ro{P:Program}{f:FuncId}{args:List Value}{Bs:List Asr}{q:Value→List Asr→Prop}(h:∀m,star Bs m→FnA P f args [ro m] (fun v As=>∃E,q v E∧As=E++[ro m])):FnA P f args Bs (fun v As=>∃E,q v E∧As=E++Bs):=
 ⟨fun m hm=>((h m hm).out m ⟨m,emp,disj_emp _,(un_emp _).symm,rfl,rfl⟩).mono fun v M' ⟨As',m',l,s,E,hq,e⟩=>by
   subst e
   obtain⟨a,b,d,rfl,h1,⟨b1,b2,d2,rfl,h2,h3⟩⟩:=star_append.1 s
   have h2:b1=m:=h2
   have h3:b2=emp:=h3
   subst h2;subst h3
   rw[un_emp]at d l
   exact⟨E++Bs,_,l,star_append.2 ⟨a,b1,d,rfl,h1,hm⟩,E,hq,rfl⟩⟩
theorem has_star{m:Mem}{Bs:List Asr}(h:star Bs m):Has m Bs:=⟨m,Mem.le_refl _,h⟩
theorem Has.sl{α:Type}{f:α→List Value}{size:Nat}{d:D}{xs:List α}{m:Mem}(h:Has m [slA size f d xs]):Sl m size f (.slice d.a xs.length d.cap) xs:=by
 obtain⟨a,l,b,c,dj,rfl,h1,_⟩:=h
 exact h1.1.le (Mem.le_trans (le_l _ _) l)
noncomputable def Heap.reach(H:Heap):List Bool:=if okH H=0 then reachL H else[]
theorem implReach_a{m:Mem}{x:HX}(h:Has m x.body):FnA Tryz.prog 8 [x.v] [ro m] (fun v As=>∃E,(∃sd:D,v=.slice sd.a x.H.reach.length sd.cap∧E=[slA 1 bv sd x.H.reach])∧As=E++[ro m]):=by
 unfold Heap.reach
 refine fnA_of (fun h=>fn8 (by simp) h) ?_
 refine v_seq (v_reg (a_nwh x rfl (fun b=>?_)))
 have hs:∀m',star [hdA b x.hdr,ro m] m'→Has m' (hp b x):=fun m' s=>has_new h s pmt (F:=[])
 have hr:∀m',star [hdA b x.hdr,ro m] m'→m.le m':=fun m' s=>ro_of s pmt (F:=[hdA b x.hdr])
 by_cases hS:okH x.H=0
 ·have hs1:=(okH_sound x.H).1 hS
  rw[if_pos hS]
  repeat' (first
   |(refine k_L ?_;first|refine a_p rfl ?_|(refine k_ls ?_;refine g_ls rfl ?_)|(refine k_c ?_;refine a_cq rfl (fun m hm=>qt_e (sound_q (x:=x) (has_g h hm)) (congrArg Value.bool (decide_eq_true hS))) ?_))
   |refine a_n ?_
   |(refine k_V ?_;first|refine v_seq ?_|refine v_reg ?_|refine v_skip ?_|refine v_cf rfl ?_))
  refine l_fix (fun m' hm'=>?_)
  refine g_c rfl (reach_a (hs m' hm') hs1.r1 hs1.r2 hs1.r4) (fun v As' hq=>?_)
  obtain⟨sd,rfl,rfl⟩:=hq
  repeat' (first
   |(refine k_L ?_;refine a_p rfl ?_)
   |refine a_n ?_
   |(refine k_V ?_;refine v_ret ?_))
  exact fa_r (As':=[slA 1 bv sd (reachL x.H),ro m]) (fun _ _=>rfl) (Ent.cons (ent_ro (hr m' hm'))) ⟨_,⟨sd,rfl,rfl⟩,rfl⟩
 ·rw[if_neg hS]
  repeat' (first
   |(refine k_L ?_;first|refine a_p rfl ?_|(refine k_ls ?_;refine g_ls rfl ?_)|(refine k_c ?_;refine a_cq rfl (fun m hm=>qt_e (sound_q (x:=x) (has_g h hm)) (congrArg Value.bool (decide_eq_false hS))) ?_))
   |refine a_n ?_
   |(refine k_V ?_;first|refine v_rv ?_|refine v_seq ?_|refine v_reg ?_|refine v_ct rfl ?_)
   |refine s_r ?_)
  exact fa_r (As':=[slA 1 bv ⟨none,0⟩ [],ro m]) (fun _ _=>rfl) ((Pm.ent (As1:=[ro m]) pmt).trans ent_new) ⟨_,⟨⟨none,0⟩,rfl,rfl⟩,rfl⟩
end Go.Proofs.YtcjmodomfilagaaGreat.E
namespace Go.Proofs.YtcjmodomfilagaaGreat.E
open Go
noncomputable def e28:Env:=⟨Tryz.prog,[5,36],40,[]⟩
noncomputable def c28:C:=
 .seq (.reg [qJ 1 0,qf 2]) (.seq (.reg [j9 6 0 3,z4 7 3 1,z5 8 1 7,⟨some 9,none,.app 3 24 [.int .i64 0,.int .i64 0,.int .i64 0] (.tmp 6) (.tmp 8)⟩,z4 10 3 1,z8 1 10 9]) (.seq (.reg [j9 11 0 1,z4 12 8 1,z5 13 1 12,qV 14 1 8 0 11 13,z4 15 8 1,z8 1 15 14]) (.seq (.reg [z4 16 4 1,z5 17 1 16,z3 3 17]) (.seq (.reg [z3 18 3,zG 19 18,⟨some 20,none,.mkslice 8 80 [.int .i64 0,.int .i64 0,.int .i64 0,
 .int .i64 0,.int .i64 0,.int .i64 0,.int .i64 0,.slice none 0 0] (.const (.int .i64 0)) (.tmp 19)⟩,z4 21 4 1,z8 1 21 20]) (.seq (.seq (.reg [z3 22 3,zG 23 22,zD 24 0]) (.block 0 (.loop (.seq (.reg [zQ 25 24 23]) (.seq (.cond (.tmp 25) .skip (.exit 0)) (.seq (.block 1 (.seq (.reg [z9 26 8 22 24,zA 27 8 26,zX 5 0 0 0 0 0 0 0 0 0,z8 8 5 27]) (.seq (.reg [j9 28 0 6,z4 29 7 5,z5 30 1 29,qr 31 6 48
 0 0 0 0 0 0 28 30,z4 32 7 5,z8 1 32 31]) (.reg [z4 33 4 1,z5 34 1 33,zA 35 8 5,jA 36 1 8 0 0 0 0 0 0 0 0 0 0 8 35,jB 37 8 80 0 0 0 0 0 0 0 0 0 34 36,z4 38 4 1,z8 1 38 37])))) (.reg [zO 39 24 1,z3 24 39]))))))) (.seq (.reg [z3 2 1]) .ret))))))
theorem t28:Tryz.f28.body.bind (trC e28)=some c28:=by kernel_rfl
theorem r28:Tryz.f28.results.toList.mapM (trR Tryz.prog)=some [.tmp 2]:=by kernel_rfl
theorem fn28{args:List Value}{M:Mem}{post:Value→Mem→Prop}(hl:args.length≤40)(h:VC e28 c28 (fnQ [.tmp 2] post) (initS args 40) M):Fn Tryz.prog 28 args M post:=
 Fn.of' (E:=e28) Tryz.func28 t28 rfl r28 mixed hl h
noncomputable def e124:Env:=⟨Tryz.prog,[30],34,[]⟩
noncomputable def c124:C:=
 .seq (.reg [z3 4 0,zM 5 86 4,z3 6 5,zI 7 6 0,zT 8 6 7,zE 9 6 4 8,zC 10 6 1 9,zI 11 6 1,zk 12 6 8 10 11,zE 13 6 5 12,zC 14 6 1 13,zV 15 6 14 0,zL 16 6 15]) (.cond (.tmp 16) (.seq (.reg [z3 17 0,z6 18 17,z4 19 4 18,z5 20 1 19,z3 21 1,z9 22 8 20 21,z4 23 5 22,zt 1 23 1]) (.reg [z3 24 0,z3 25 0,z6 26 25,z4 27 8 26,z5 28 1 27,z3 29 1,qa 30 1 1 0 0 1 29,qV 31 1 8 0 28 30,z6 32 24,z4 33 8 32,z8 1 33
 31])) .skip)
theorem t124:Tryz.f124.body.bind (trC e124)=some c124:=by kernel_rfl
theorem r124:Tryz.f124.results.toList.mapM (trR Tryz.prog)=some []:=by kernel_rfl
theorem fn124{args:List Value}{M:Mem}{post:Value→Mem→Prop}(hl:args.length≤34)(h:VC e124 c124 (fnQ [] post) (initS args 34) M):Fn Tryz.prog 124 args M post:=
 Fn.of' (E:=e124) Tryz.func124 t124 rfl r124 mixed hl h
noncomputable def e131:Env:=⟨Tryz.prog,[3],25,[]⟩
noncomputable def c131:C:=
 .seq (.reg [za 3 1,zJ 4]) (.seq (.reg [z3 6 0,zA 7 3 3,zU 8 64 6 7,z3 5 8]) (.seq (.seq (.reg [z3 9 5,qO 10 9 0,z3 11 10,zP 12 11 0,zZ 13 11 12,zF 14 11 4 13,zK 15 11 1 14,zP 16 11 5,qD 17 11 8 15 16,zF 18 11 5 17,zK 19 11 1 18,zo 20 11 19 0,zN 21 11 20]) (.cond (.tmp 21) (.seq (.reg [zJ 4]) .ret) .skip)) (.seq (.reg [z3 22 0,z3 23 5,zU 24 124 22 23]) (.seq (.reg [zY 4]) .ret))))
theorem t131:Tryz.f131.body.bind (trC e131)=some c131:=by kernel_rfl
theorem r131:Tryz.f131.results.toList.mapM (trR Tryz.prog)=some [.tmp 4]:=by kernel_rfl
theorem fn131{args:List Value}{M:Mem}{post:Value→Mem→Prop}(hl:args.length≤25)(h:VC e131 c131 (fnQ [.tmp 4] post) (initS args 25) M):Fn Tryz.prog 131 args M post:=
 Fn.of' (E:=e131) Tryz.func131 t131 rfl r131 mixed hl h
noncomputable def e88:Env:=⟨Tryz.prog,[],24,[]⟩
noncomputable def c88:C:=
 .seq (.reg [z3 4 0,z3 5 0,z3 6 0,z3 7 1,z6 8 4,z4 9 5 8,z8 1 9 7,z6 10 5,z4 11 6 10,zt 1 11 0,z6 12 6,z4 13 7 12,zt 1 13 0]) (.seq (.reg [z3 14 1,z7 15 14 6]) (.cond (.tmp 15) (.reg [z3 16 0,z3 17 0,z6 18 17,z4 19 4 18,z5 20 1 19,zG 21 20,z6 22 16,z4 23 6 22,z8 1 23 21]) .skip))
theorem t88:Tryz.f88.body.bind (trC e88)=some c88:=by kernel_rfl
theorem r88:Tryz.f88.results.toList.mapM (trR Tryz.prog)=some []:=by kernel_rfl
theorem fn88{args:List Value}{M:Mem}{post:Value→Mem→Prop}(hl:args.length≤24)(h:VC e88 c88 (fnQ [] post) (initS args 24) M):Fn Tryz.prog 88 args M post:=
 Fn.of' (E:=e88) Tryz.func88 t88 rfl r88 mixed hl h
noncomputable def e89:Env:=⟨Tryz.prog,[],263,[(5,11),(13,9),(15,11),(24,9),(25,10),(26,9),(27,16),(36,12),(37,10),(38,21)]⟩
noncomputable def c89:C:=
 .seq (.reg [z3 6 0,z6 7 6,z4 8 4 7,z5 9 1 8,zG 10 9,z3 2 10]) (.seq (.reg [z3 11 0,z6 12 11,z4 13 5 12,z5 14 1 13]) (.block 0 (.seq (.reg [z7 16 14 1,z3 15 16]) (.cond (.tmp 15) (.seq (.seq (.reg [z3 17 0,z6 18 17,z4 19 6 18,z5 20 1 19,z3 21 2,zy 22 20 21]) (.cond (.tmp 22) (.seq (.reg [z3 23 0,zR 24 88 23 2]) .ret) .skip)) (.seq (.seq (.dreg 11 [z3 25 0,z6 26 25,z4 27 4 26,z5 28 1 27,z3 29
 0,z6 30 29,z4 31 6 30,z5 32 1 31,z9 33 8 28 32,zA 34 8 33,qK 35 66 34]) (.cond (.tmp 35) (.reg [z3 36 0,z3 37 0,z6 38 37,z4 39 6 38,z5 40 1 39,zU 41 124 36 40]) .skip)) (.reg [z3 42 0,z6 43 42,z4 44 6 43,z5 45 1 44,zO 46 45 1,z6 47 42,z4 48 6 47,z8 1 48 46]))) (.seq (.reg [z7 50 14 2,z3 49 50]) (.cond (.tmp 49) (.reg [z3 51 0,zM 52 125 51]) (.seq (.reg [z7 54 14 3,z3 53 54]) (.cond (.tmp 53)
 (.seq (.seq (.reg [z3 55 0,z6 56 55,z4 57 6 56,z5 58 1 57,z3 59 2,zy 60 58 59]) (.cond (.tmp 60) (.seq (.reg [z3 61 0,zR 62 88 61 4]) .ret) .skip)) (.seq (.dreg 9 [z3 63 0,z6 64 63,z4 65 4 64,z5 66 1 65,z3 67 0,z6 68 67,z4 69 6 68,z5 70 1 69,z9 71 8 66 70,z3 3 71]) (.seq (.seq (.reg [z3 72 3,z6 73 72,z4 74 0 73,z5 75 1 74,z7 76 75 1,z3 77 76,zI 78 77 3,zT 79 77 78,zE 80 77 5 79,zC 81 77 1 80,
 zV 82 77 81 0,zL 83 77 82]) (.cond (.tmp 83) (.seq (.dreg 11 [z3 84 0,z6 85 84,z4 86 1 85,z5 87 1 86,z3 88 3,z6 89 88,zA 90 8 89,qK 91 80 90,⟨some 92,none,.bin .sub (.tmp 87) (.tmp 91)⟩,z6 93 84,z4 94 1 93,z8 1 94 92]) (.reg [z3 95 3,qt 96 0 0 0 0 0 0 0 0 0,z6 97 95,z8 8 97 96])) (.reg [z3 98 3,z6 99 98,z4 100 5 99,zt 1 100 0]))) (.reg [z3 101 0,z6 102 101,z4 103 6 102,z5 104 1 103,zO 105 104
 1,z6 106 101,z4 107 6 106,z8 1 107 105])))) (.seq (.reg [z7 109 14 4,z3 108 109]) (.cond (.tmp 108) (.reg [z3 110 0,zM 111 126 110]) (.seq (.reg [z7 113 14 5,z3 112 113]) (.cond (.tmp 112) (.seq (.seq (.reg [z3 114 0,z6 115 114,z4 116 6 115,z5 117 1 116,z3 118 2,zy 119 117 118]) (.cond (.tmp 119) (.seq (.reg [z3 120 0,zR 121 88 120 6]) .ret) .skip)) (.seq (.dreg 9 [z3 122 0,z6 123 122,z4
 124 4 123,z5 125 1 124,z3 126 0,z6 127 126,z4 128 6 127,z5 129 1 128,z9 130 8 125 129,z3 4 130]) (.seq (.seq (.dreg 10 [z3 131 0,z6 132 131,z4 133 7 132,z5 134 1 133,z3 135 4,z6 136 135,z4 137 7 136,z5 138 1 137,zG 139 138,zQ 140 134 139]) (.cond (.tmp 140) (.seq (.dreg 9 [z3 141 4,z6 142 141,z4 143 7 142,z5 144 1 143,z3 145 0,z6 146 145,z4 147 7 146,z5 148 1 147,z9 149 6 144 148,z3 5 149])
 (.seq (.dreg 16 [z3 150 5,z3 151 5,z3 152 0,z3 153 5,z6 154 153,z4 155 0 154,zA 156 3 155,qU 157 112 152 156,z3 158 0,z3 159 5,z6 160 159,z4 161 3 160,zA 162 3 161,qU 163 112 158 162,z6 164 150,z4 165 0 164,z8 3 165 157,z6 166 151,z4 167 3 166,z8 3 167 163]) (.seq (.reg [z3 168 0,z6 169 168,z4 170 7 169,z5 171 1 170,zO 172 171 1,z6 173 168,z4 174 7 173,z8 1 174 172]) .ret))) .skip)) (.seq (.reg
 [z3 175 0,z6 176 175,z4 177 6 176,z5 178 1 177,zO 179 178 1,z6 180 175,z4 181 6 180,z8 1 181 179]) (.reg [z3 182 0,z6 183 182,z4 184 7 183,zt 1 184 0]))))) (.seq (.reg [z7 186 14 6,z3 185 186]) (.cond (.tmp 185) (.seq (.seq (.reg [z3 187 0,z6 188 187,z4 189 6 188,z5 190 1 189,z7 191 190 0]) (.cond (.tmp 191) (.seq (.reg [z3 192 0,zR 193 88 192 0]) (.seq (.reg [z3 194 0,z3 195 0,z6 196 195,
 z4 197 11 196,z5 198 1 197,zO 199 198 1,⟨some 200,none,.min (.tmp 199) (.const (.int .i64 1000000000))⟩,z6 201 194,z4 202 11 201,z8 1 202 200]) .ret)) .skip)) (.seq (.reg [z3 203 0,z6 204 203,z4 205 6 204,z5 206 1 205,zc 207 206 1,z6 208 203,z4 209 6 208,z8 1 209 207]) (.seq (.seq (.dreg 12 [z3 210 0,z6 211 210,z4 212 4 211,z5 213 1 212,z3 214 0,z6 215 214,z4 216 6 215,z5 217 1 216,z9 218 8 213
 217,z4 219 0 218,z5 220 1 219,z7 221 220 2]) (.cond (.tmp 221) (.dreg 10 [z3 222 0,z6 223 222,z4 224 4 223,z5 225 1 224,z3 226 0,z6 227 226,z4 228 6 227,z5 229 1 228,qt 230 0 0 0 0 0 0 0 0 0,z9 231 8 225 229,z8 8 231 230]) .skip)) (.seq (.dreg 21 [z3 232 0,z6 233 232,z4 234 6 233,z5 235 1 234,z3 236 2,zc 237 236 1,zy 238 235 237,z3 239 238,zI 240 239 0,zT 241 239 240,zE 242 239 4 241,zC 243 239
 1 242,zI 244 239 0,zT 245 239 244,zE 246 239 6 245,zC 247 239 1 246,zk 248 239 8 243 247,zE 249 239 0 248,zC 250 239 1 249,zV 251 239 250 0,zL 252 239 251]) (.cond (.tmp 252) (.reg [z3 253 0,z3 254 0,z6 255 254,z4 256 4 255,z5 257 1 256,z3 258 2,zc 259 258 1,qn 260 8 257 259,z6 261 253,z4 262 4 261,z8 1 262 260]) .skip))))) .skip))))))))))))))
theorem t89:Tryz.f89.body.bind (trC e89)=some c89:=by kernel_rfl
theorem r89:Tryz.f89.results.toList.mapM (trR Tryz.prog)=some []:=by kernel_rfl
theorem fn89{args:List Value}{M:Mem}{post:Value→Mem→Prop}(hl:args.length≤263)(h:VC e89 c89 (fnQ [] post) (initS args 263) M):Fn Tryz.prog 89 args M post:=
 Fn.of' (E:=e89) Tryz.func89 t89 rfl r89 mixed hl h
noncomputable def e125:Env:=⟨Tryz.prog,[3,6],90,[(1,11),(2,10),(3,11)]⟩
noncomputable def c125:C:=
 .seq (.seq (.reg [z3 7 0,z6 8 7,z4 9 8 8,z5 10 1 9,zG 11 10,zq 12 11 0]) (.cond (.tmp 12) (.seq (.dreg 11 [z3 13 0,z6 14 13,z4 15 4 14,z5 16 1 15,z3 17 0,z6 18 17,z4 19 8 18,z5 20 1 19,qh 21 1 20 0,z5 22 1 21,z9 23 8 16 22,z3 2 23]) (.seq (.seq (.dreg 10 [z3 24 0,z6 25 24,z4 26 7 25,z5 27 1 26,z3 28 2,z6 29 28,z4 30 7 29,z5 31 1 30,zG 32 31,zQ 33 27 32]) (.cond (.tmp 33) (.seq (.dreg 11 [z3
 34 2,z6 35 34,z4 36 7 35,z5 37 1 36,z3 38 0,z6 39 38,z4 40 7 39,z5 41 1 40,z9 42 6 37 41,zA 43 6 42,q6 3 0 0 0 0 0 0,z8 6 3 43]) (.seq (.reg [z3 44 0,z4 45 0 3,zA 46 3 45,zU 47 131 44 46]) (.seq (.reg [z3 48 0,z4 49 3 3,zA 50 3 49,zU 51 131 48 50]) (.seq (.reg [z3 52 0,z6 53 52,z4 54 7 53,z5 55 1 54,zO 56 55 1,z6 57 52,z4 58 7 57,z8 1 58 56]) .ret)))) .skip)) (.seq (.reg [z3 59 2,z6 60 59,z4
 61 5 60,zt 1 61 2]) (.seq (.reg [z3 62 0,z3 63 0,z6 64 63,z4 65 8 64,z5 66 1 65,⟨some 67,none,.slc 1 (.tmp 66) (some (.const (.int .i64 1))) none⟩,z6 68 62,z4 69 8 68,z8 1 69 67]) (.seq (.reg [z3 70 0,z6 71 70,z4 72 7 71,zt 1 72 0]) .ret))))) .skip)) (.seq (.reg [zJ 4]) (.seq (.seq (.reg [z3 73 0,z6 74 73,z4 75 3 74,z5 76 1 75,zG 77 76,zD 78 0]) (.block 0 (.loop (.seq (.reg [zQ 79 78 77])
 (.seq (.cond (.tmp 79) .skip (.exit 0)) (.seq (.block 1 (.seq (.reg [z9 80 3 76 78,zA 81 3 80,zp 6 0 0 0,z8 3 6 81]) (.seq (.reg [z3 82 0,zA 83 3 6,zU 84 131 82 83]) (.cond (.tmp 84) (.reg [zY 4]) .skip)))) (.reg [zO 85 78 1,z3 78 85]))))))) (.seq (.reg [z3 86 4,zW 87 86]) (.cond (.tmp 87) (.reg [z3 88 0,zR 89 88 88 3]) .skip))))
theorem t125:Tryz.f125.body.bind (trC e125)=some c125:=by kernel_rfl
theorem r125:Tryz.f125.results.toList.mapM (trR Tryz.prog)=some []:=by kernel_rfl
theorem fn125{args:List Value}{M:Mem}{post:Value→Mem→Prop}(hl:args.length≤90)(h:VC e125 c125 (fnQ [] post) (initS args 90) M):Fn Tryz.prog 125 args M post:=
 Fn.of' (E:=e125) Tryz.func125 t125 rfl r125 mixed hl h
noncomputable def e126:Env:=⟨Tryz.prog,[5,7],88,[(11,13)]⟩
noncomputable def c126:C:=
 .seq (.reg [z3 8 0,z6 9 8,z4 10 4 9,z5 11 1 10,zG 12 11,z3 2 12,zD 3 (-1)]) (.seq (.seq (.reg [z3 13 0,z6 14 13,z4 15 4 14,z5 16 1 15,zG 17 16,zD 18 0]) (.block 0 (.loop (.seq (.reg [zQ 19 18 17]) (.seq (.cond (.tmp 19) .skip (.exit 0)) (.seq (.block 1 (.seq (.reg [z3 20 18,z9 21 8 16 18,zA 22 8 21,zX 5 0 0 0 0 0 0 0 0 0,z3 4 20,z8 8 5 22]) (.seq (.seq (.reg [z4 23 0 5,z5 24 1 23,z7 25 24
 0]) (.cond (.tmp 25) (.reg [z3 26 2,z3 27 4,⟨some 28,none,.min (.tmp 26) (.tmp 27)⟩,z3 2 28]) .skip)) (.seq (.reg [z4 29 0 5,z5 30 1 29,z7 31 30 1]) (.cond (.tmp 31) (.reg [z3 32 4,z3 3 32]) .skip))))) (.reg [zO 33 18 1,z3 18 33]))))))) (.seq (.seq (.reg [z3 34 2,z3 35 3,qd 36 34 35]) (.cond (.tmp 36) (.seq (.reg [z3 37 0,zR 38 88 37 5]) .ret) .skip)) (.seq (.dreg 13 [z3 39 0,z6 40 39,z4
 41 4 40,z5 42 1 41,z3 43 2,z3 44 0,z6 45 44,z4 46 4 45,z5 47 1 46,z3 48 3,z9 49 8 47 48,zA 50 8 49,z9 51 8 42 43,z8 8 51 50]) (.seq (.reg [z3 52 0,z6 53 52,z4 54 4 53,z5 55 1 54,z3 56 3,z3 57 2,⟨some 58,none,.build [.int .i64 0,.int .i64 0,.int .i64 0,.int .i64 0,.int .i64 0,.int .i64 0,.int .i64 0,.slice none 0 0] [(0,1,.const (.int .i64 2)),(6,1,.tmp 57)]⟩,z9 59 8 55 56,z8 8 59 58]) (.seq
 (.reg [z3 60 0,z6 61 60,z4 62 3 61,z5 63 1 62,zG 64 63,zD 65 0]) (.block 2 (.loop (.seq (.reg [zQ 66 65 64]) (.seq (.cond (.tmp 66) .skip (.exit 2)) (.seq (.block 3 (.seq (.reg [z3 67 65,z9 68 3 63 65,zA 69 3 68,zp 7 0 0 0,z3 6 67,z8 3 7 69]) (.seq (.reg [z4 70 0 7,z5 71 1 70,z7 72 71 2,z3 73 72,zE 74 73 2 7,zC 75 73 1 74,zI 76 73 3,qA 77 73 75 76,zL 78 73 77]) (.cond (.tmp 78) (.reg [z3 79
 0,z6 80 79,z4 81 3 80,z5 82 1 81,z3 83 6,z3 84 2,z9 85 3 82 83,z4 86 2 85,z8 1 86 84]) .skip)))) (.reg [zO 87 65 1,z3 65 87])))))))))))
theorem t126:Tryz.f126.body.bind (trC e126)=some c126:=by kernel_rfl
theorem r126:Tryz.f126.results.toList.mapM (trR Tryz.prog)=some []:=by kernel_rfl
theorem fn126{args:List Value}{M:Mem}{post:Value→Mem→Prop}(hl:args.length≤88)(h:VC e126 c126 (fnQ [] post) (initS args 88) M):Fn Tryz.prog 126 args M post:=
 Fn.of' (E:=e126) Tryz.func126 t126 rfl r126 mixed hl h
noncomputable def e48:Env:=⟨Tryz.prog,[],9,[]⟩
noncomputable def c48:C:=
 .seq (.reg [z3 2 0,z6 3 2,z4 4 5 3,z5 5 1 4,z7 6 5 0]) (.cond (.tmp 6) (.reg [z3 7 0,zR 8 88 7 1]) .skip)
theorem t48:Tryz.f48.body.bind (trC e48)=some c48:=by kernel_rfl
theorem r48:Tryz.f48.results.toList.mapM (trR Tryz.prog)=some []:=by kernel_rfl
theorem fn48{args:List Value}{M:Mem}{post:Value→Mem→Prop}(hl:args.length≤9)(h:VC e48 c48 (fnQ [] post) (initS args 9) M):Fn Tryz.prog 48 args M post:=
 Fn.of' (E:=e48) Tryz.func48 t48 rfl r48 mixed hl h
noncomputable def e51:Env:=⟨Tryz.prog,[],14,[]⟩
noncomputable def c51:C:=
 .seq (.reg [zD 2 0]) (.seq (.reg [zD 3 0]) (.seq (.block 0 (.loop (.seq (.seq (.reg [z3 4 0,z6 5 4,z4 6 5 5,z5 7 1 6,zj 8 7 0]) (.cond (.tmp 8) .skip (.exit 0))) (.block 1 (.seq (.reg [z3 9 0,zM 10 89 9]) (.reg [z3 11 3,zO 12 11 1,z3 3 12])))))) (.seq (.reg [z3 13 3,z3 2 13]) .ret)))
theorem t51:Tryz.f51.body.bind (trC e51)=some c51:=by kernel_rfl
theorem r51:Tryz.f51.results.toList.mapM (trR Tryz.prog)=some [.tmp 2]:=by kernel_rfl
theorem fn51{args:List Value}{M:Mem}{post:Value→Mem→Prop}(hl:args.length≤14)(h:VC e51 c51 (fnQ [.tmp 2] post) (initS args 14) M):Fn Tryz.prog 51 args M post:=
 Fn.of' (E:=e51) Tryz.func51 t51 rfl r51 mixed hl h
noncomputable def e53:Env:=⟨Tryz.prog,[],8,[]⟩
noncomputable def c53:C:=
 .seq (.reg [z3 2 0,zM 3 51 2]) (.seq (.reg [z3 4 0,zM 5 48 4]) (.reg [z3 6 0,zM 7 51 6]))
theorem t53:Tryz.f53.body.bind (trC e53)=some c53:=by kernel_rfl
theorem r53:Tryz.f53.results.toList.mapM (trR Tryz.prog)=some []:=by kernel_rfl
theorem fn53{args:List Value}{M:Mem}{post:Value→Mem→Prop}(hl:args.length≤8)(h:VC e53 c53 (fnQ [] post) (initS args 8) M):Fn Tryz.prog 53 args M post:=
 Fn.of' (E:=e53) Tryz.func53 t53 rfl r53 mixed hl h
noncomputable def e21:Env:=⟨Tryz.prog,[1,2],15,[]⟩
noncomputable def c21:C:=
 .seq (.reg [za 1 0,qW 2 0 0 0 0 0 0 0 0 0 0 0 0 0 0 0 0]) (.seq (.seq (.reg [zA 4 13 1,zM 5 25 4,zW 6 5]) (.cond (.tmp 6) (.seq (.reg [⟨some 7,none,.build [.int .i64 0,.int .i64 0,.int .i64 0,.slice none 0 0,.slice none 0 0,.int .i64 0,.int .i64 0,.int .i64 0,.slice none 0 0,.int .i64 0,.int .i64 0,.int .i64 0,.int .i64 0] []⟩,z8 13 2 7]) .ret) .skip)) (.seq (.reg [zA 8 13 1,zM 9 28 8,z3 3
 9]) (.seq (.reg [z3 10 3,zM 11 53 10]) (.seq (.reg [z3 12 3,z6 13 12,zA 14 13 13,z8 13 2 14]) .ret))))
theorem t21:Tryz.f21.body.bind (trC e21)=some c21:=by kernel_rfl
theorem r21:Tryz.f21.results.toList.mapM (trR Tryz.prog)=some [.cell 2 false 13]:=by kernel_rfl
theorem fn21{args:List Value}{M:Mem}{post:Value→Mem→Prop}(hl:args.length≤15)(h:VC e21 c21 (fnQ [.cell 2 false 13] post) (initS args 15) M):Fn Tryz.prog 21 args M post:=
 Fn.of' (E:=e21) Tryz.func21 t21 rfl r21 mixed hl h
end Go.Proofs.YtcjmodomfilagaaGreat.E
