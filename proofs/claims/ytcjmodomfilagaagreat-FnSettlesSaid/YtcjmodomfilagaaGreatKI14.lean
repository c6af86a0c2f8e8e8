/- A part of the proof. Conditions: none. -/
import Derived.Test.YtcjmodomfilagaaGreatKI13
set_option maxRecDepth 100000
set_option linter.unusedVariables false
namespace Go.Proofs.YtcjmodomfilagaaGreat.E
open Go
noncomputable def e140:Env:=⟨Tryz.prog,[],25,[]⟩
abbrev zn(a0:Nat)(a1:Nat)(a2:Int):I:=⟨some a0,none,.call a1 [.const (.int .i64 a2)]⟩
abbrev qH(a0:Nat)(a1:Nat)(a2:Int):I:=⟨none,none,.store a0 (.tmp a1) (.const (.int .i64 a2))⟩
abbrev qR(a0:Nat)(a1:Int)(a2:Int):I:=⟨some a0,none,.alloc true [.int .i64 a1,.int .i64 a2]⟩
abbrev qk(a0:Nat)(a1:Nat)(a2:Nat)(a3:Int)(a4:Int)(a5:Int)(a6:Int)(a7:Int)(a8:Int)(a9:Nat)(a10:Nat):I:=⟨some a0,none,.app a1 a2 [.int .i64 a3,.int .i64 a4,.int .i64 a5,.int .i64 a6,.int .i64 a7,.int .i64 a8] (.tmp a9) (.tmp a10)⟩
abbrev qv(a0:Nat)(a1:Nat)(a2:Nat)(a3:Int)(a4:Int)(a5:Int)(a6:Int)(a7:Int)(a8:Int)(a9:Nat)(a10:Nat)(a11:Nat):I:=⟨some a0,none,.bslice true a1 a2 [.int .i64 a3,.int .i64 a4,.int .i64 a5,.int .i64 a6,.int .i64 a7,.int .i64 a8] [(a9,a10,.tmp a11)]⟩
abbrev qw(a0:Nat)(a1:Int)(a2:Int)(a3:Int)(a4:Nat)(a5:Nat)(a6:Nat)(a7:Nat)(a8:Int)(a9:Int)(a10:Int)(a11:Nat)(a12:Nat)(a13:Int)(a14:Int)(a15:Int)(a16:Int)(a17:Int)(a18:Int):I:=⟨some a0,none,.alloc true [.int .i64 a1,.int .i64 a2,.int .i64 a3,.slice none a4 a5,.slice none a6 a7,.int .i64 a8,.int .i64 a9,.int .i64 a10,.slice none a11 a12,.int .i64 a13,.int .i64 a14,.int .i64 a15,.int .i64 a16,.int .i64 a17,.int .i64 a18]⟩
abbrev jA(a0:Nat)(a1:Int)(a2:Int)(a3:Nat)(a4:Nat)(a5:Nat):I:=⟨some a0,none,.build [.int .i64 a1,.int .i64 a2] [(a3,a4,.tmp a5)]⟩
abbrev jB(a0:Nat)(a1:Nat)(a2:Nat):I:=⟨some a0,none,.bslice false a1 a2 [] []⟩
abbrev jC(a0:Nat)(a1:Nat)(a2:Nat)(a3:Int)(a4:Int)(a5:Int)(a6:Int)(a7:Int)(a8:Int)(a9:Int)(a10:Nat)(a11:Nat)(a12:Nat)(a13:Nat)(a14:Nat):I:=⟨some a0,none,.bslice true a1 a2 [.int .i64 a3,.int .i64 a4,.int .i64 a5,.int .i64 a6,.int .i64 a7,.int .i64 a8,.int .i64 a9,.slice none a10 a11] [(a12,a13,.tmp a14)]⟩
abbrev jD(a0:Nat)(a1:Nat)(a2:Nat)(a3:Int)(a4:Int)(a5:Int)(a6:Int)(a7:Int)(a8:Int)(a9:Int)(a10:Nat)(a11:Nat)(a12:Nat)(a13:Nat):I:=⟨some a0,none,.app a1 a2 [.int .i64 a3,.int .i64 a4,.int .i64 a5,.int .i64 a6,.int .i64 a7,.int .i64 a8,.int .i64 a9,.slice none a10 a11] (.tmp a12) (.tmp a13)⟩
noncomputable def c140:C:=
 .seq (.reg [zL 2,zL 3]) (.seq (.seq (.reg [z3 4 0]) (.block 0 (.seq (.seq (.reg [z7 6 4 1,z3 5 6]) (.cond (.tmp 5) .skip (.seq (.reg [z7 7 4 2,z3 5 7]) (.cond (.tmp 5) .skip (.seq (.reg [z7 8 4 3,z3 5 8]) (.cond (.tmp 5) .skip (.seq (.reg [z7 9 4 9,z3 5 9]) (.cond (.tmp 5) .skip (.seq (.reg [z7 10 4 10,z3 5 10]) (.cond (.tmp 5) .skip (.seq (.reg [z7 11 4 11,z3 5 11]) (.cond (.tmp 5) .skip
 (.seq (.reg [z7 12 4 12,z3 5 12]) (.cond (.tmp 5) .skip (.seq (.reg [z7 13 4 14,z3 5 13]) (.cond (.tmp 5) .skip (.seq (.reg [z7 14 4 15,z3 5 14]) (.cond (.tmp 5) .skip (.seq (.reg [z7 15 4 16,z3 5 15]) (.cond (.tmp 5) .skip (.seq (.reg [z7 16 4 17,z3 5 16]) (.cond (.tmp 5) .skip (.reg [z7 17 4 19,z3 5 17]))))))))))))))))))))))) (.cond (.tmp 5) (.seq (.reg [ze 2,zL 3]) .ret) (.seq (.seq
 (.reg [z7 19 4 4,z3 18 19]) (.cond (.tmp 18) .skip (.seq (.reg [z7 20 4 5,z3 18 20]) (.cond (.tmp 18) .skip (.seq (.reg [z7 21 4 6,z3 18 21]) (.cond (.tmp 18) .skip (.seq (.reg [z7 22 4 7,z3 18 22]) (.cond (.tmp 18) .skip (.seq (.reg [z7 23 4 8,z3 18 23]) (.cond (.tmp 18) .skip (.reg [z7 24 4 13,z3 18 24]))))))))))) (.cond (.tmp 18) (.seq (.reg [ze 2,ze 3]) .ret) .skip)))))) (.seq (.reg [
 zL 2,zL 3]) .ret))
theorem t140:Tryz.f140.body.bind (trC e140)=some c140:=by kernel_rfl
theorem r140:Tryz.f140.results.toList.mapM (trR Tryz.prog)=some [.tmp 2,.tmp 3]:=by kernel_rfl
theorem fn140{args:List Value}{M:Mem}{post:Value→Mem→Prop}(hl:args.length≤25)(h:VC e140 c140 (fnQ [.tmp 2,.tmp 3] post) (initS args 25) M):Fn Tryz.prog 140 args M post:=
 Fn.of' (E:=e140) Tryz.func140 t140 rfl r140 mixed hl h
noncomputable def e141:Env:=⟨Tryz.prog,[],26,[]⟩
noncomputable def c141:C:=
 .seq (.reg [zC 2 0,zC 3 0]) (.seq (.seq (.reg [z3 4 0]) (.block 0 (.seq (.reg [z7 6 4 1,z3 5 6]) (.cond (.tmp 5) (.seq (.reg [zC 2 255,zC 3 200]) .ret) (.seq (.seq (.reg [z7 8 4 5,z3 7 8]) (.cond (.tmp 7) .skip (.seq (.reg [z7 9 4 6,z3 7 9]) (.cond (.tmp 7) .skip (.seq (.reg [z7 10 4 7,z3 7 10]) (.cond (.tmp 7) .skip (.reg [z7 11 4 8,z3 7 11]))))))) (.cond (.tmp 7) (.seq (.reg [zC 2 15,
 zC 3 199]) .ret) (.seq (.seq (.reg [z7 13 4 4,z3 12 13]) (.cond (.tmp 12) .skip (.reg [z7 14 4 13,z3 12 14]))) (.cond (.tmp 12) (.seq (.reg [zC 2 15,zC 3 0]) .ret) (.seq (.seq (.reg [z7 16 4 9,z3 15 16]) (.cond (.tmp 15) .skip (.reg [z7 17 4 10,z3 15 17]))) (.cond (.tmp 15) (.seq (.reg [zC 2 0,zC 3 200]) .ret) (.seq (.reg [z7 19 4 11,z3 18 19]) (.cond (.tmp 18) (.seq (.reg [zC 2 0,zC 3
 3]) .ret) (.seq (.reg [z7 21 4 12,z3 20 21]) (.cond (.tmp 20) (.seq (.reg [zC 2 0,zC 3 1]) .ret) (.seq (.reg [z7 23 4 22,z3 22 23]) (.cond (.tmp 22) (.seq (.reg [zC 2 0,zC 3 100000]) .ret) (.seq (.reg [z7 25 4 23,z3 24 25]) (.cond (.tmp 24) (.seq (.reg [zC 2 64,zC 3 4000]) .ret) .skip)))))))))))))))))) (.seq (.reg [zC 2 0,zC 3 0]) .ret))
theorem t141:Tryz.f141.body.bind (trC e141)=some c141:=by kernel_rfl
theorem r141:Tryz.f141.results.toList.mapM (trR Tryz.prog)=some [.tmp 2,.tmp 3]:=by kernel_rfl
theorem fn141{args:List Value}{M:Mem}{post:Value→Mem→Prop}(hl:args.length≤26)(h:VC e141 c141 (fnQ [.tmp 2,.tmp 3] post) (initS args 26) M):Fn Tryz.prog 141 args M post:=
 Fn.of' (E:=e141) Tryz.func141 t141 rfl r141 mixed hl h
noncomputable def e133:Env:=⟨Tryz.prog,[1],63,[]⟩
noncomputable def c133:C:=
 .seq (.reg [zZ 1 0,zL 2]) (.seq (.seq (.reg [z4 7 0 1,z5 8 1 7,qP 9 8 1,z3 10 9,zI 11 10 0 1,zK 12 10 1 11,qr 13 10 12 24,zO 14 10 13,z3 15 14,zI 16 15 0 1,zK 17 15 1 16,zx 18 15 17 2,zP 19 15 18,zE 20 19 4 1,zD 21 19 1 20,qG 22 19 21 0,q9 23 15 19 22,zO 24 15 23]) (.cond (.tmp 24) (.seq (.reg [zL 2]) .ret) .skip)) (.seq (.reg [z4 26 0 1,z5 27 1 26,zM 28 140 27,z3 25 28,q8 29 25 0,q8 30 25 1,
 z3 3 29,z3 4 30]) (.seq (.seq (.reg [z3 31 3,z3 32 31,zE 33 32 1 1,zD 34 32 1 33,qM 35 32 113 34 0 15,q5 36 32 35,zJ 37 32 36,z3 38 37,zP 39 38 3,zf 40 38 39,zP 41 38 40,zE 42 41 1 1,zD 43 41 1 42,qG 44 41 43 0,q9 45 38 41 44,zO 46 38 45]) (.cond (.tmp 46) (.seq (.reg [zL 2]) .ret) .skip)) (.seq (.reg [z4 48 0 1,z5 49 1 48,zM 50 141 49,z3 47 50,q8 51 47 0,q8 52 47 1,z3 5 51,z3 6 52]) (.seq
 (.reg [z4 53 2 1,z5 54 1 53,z3 55 5,j5 56 113 54 0 55,z3 57 56,zE 58 57 3 1,zD 59 57 1 58,zF 60 57 6,⟨some 61,some (57,true),.call 113 [.tmp 59,.const (.int .i64 0),.tmp 60]⟩,zJ 62 57 61,z3 2 62]) .ret)))))
theorem t133:Tryz.f133.body.bind (trC e133)=some c133:=by kernel_rfl
theorem r133:Tryz.f133.results.toList.mapM (trR Tryz.prog)=some [.tmp 2]:=by kernel_rfl
theorem fn133{args:List Value}{M:Mem}{post:Value→Mem→Prop}(hl:args.length≤63)(h:VC e133 c133 (fnQ [.tmp 2] post) (initS args 63) M):Fn Tryz.prog 133 args M post:=
 Fn.of' (E:=e133) Tryz.func133 t133 rfl r133 mixed hl h
noncomputable def e138:Env:=⟨Tryz.prog,[2],5,[]⟩
noncomputable def c138:C:=
 .seq (.reg [qR 2 0 0]) (.seq (.reg [z3 3 0,jA 4 0 0 1 1 3,z8 2 2 4]) .ret)
theorem t138:Tryz.f138.body.bind (trC e138)=some c138:=by kernel_rfl
theorem r138:Tryz.f138.results.toList.mapM (trR Tryz.prog)=some [.cell 2 false 2]:=by kernel_rfl
theorem fn138{args:List Value}{M:Mem}{post:Value→Mem→Prop}(hl:args.length≤5)(h:VC e138 c138 (fnQ [.cell 2 false 2] post) (initS args 5) M):Fn Tryz.prog 138 args M post:=
 Fn.of' (E:=e138) Tryz.func138 t138 rfl r138 mixed hl h
noncomputable def e134:Env:=⟨Tryz.prog,[2],5,[]⟩
noncomputable def c134:C:=
 .seq (.reg [qR 2 0 0]) (.seq (.reg [z3 3 0,jA 4 0 0 0 1 3,z8 2 2 4]) .ret)
theorem t134:Tryz.f134.body.bind (trC e134)=some c134:=by kernel_rfl
theorem r134:Tryz.f134.results.toList.mapM (trR Tryz.prog)=some [.cell 2 false 2]:=by kernel_rfl
theorem fn134{args:List Value}{M:Mem}{post:Value→Mem→Prop}(hl:args.length≤5)(h:VC e134 c134 (fnQ [.cell 2 false 2] post) (initS args 5) M):Fn Tryz.prog 134 args M post:=
 Fn.of' (E:=e134) Tryz.func134 t134 rfl r134 mixed hl h
noncomputable def e142:Env:=⟨Tryz.prog,[],41,[(1,11),(6,11)]⟩
noncomputable def c142:C:=
 .seq (.reg [zL 4]) (.seq (.seq (.dreg 11 [z3 5 0,z6 6 5,z4 7 1 6,z5 8 1 7,z3 9 1,q7 10 8 9,z3 11 0,z6 12 11,z4 13 0 12,z5 14 1 13,qV 15 10 14]) (.cond (.tmp 15) (.seq (.reg [ze 4]) .ret) .skip)) (.seq (.seq (.reg [z3 16 0,z6 17 16,z4 18 12 17,z5 19 1 18,qP 20 19 1000000000]) (.cond (.tmp 20) (.reg [z3 21 0,z6 22 21,z4 23 12 22,z5 24 1 23,zN 25 24 1,z6 26 21,z4 27 12 26,z8 1 27 25]) .skip))
 (.seq (.reg [z3 28 0,zM 29 55 28]) (.seq (.dreg 11 [z3 30 0,z6 31 30,z4 32 1 31,z5 33 1 32,z3 34 1,q7 35 33 34,z3 36 0,z6 37 36,z4 38 0 37,z5 39 1 38,qV 40 35 39,z3 4 40]) .ret))))
theorem t142:Tryz.f142.body.bind (trC e142)=some c142:=by kernel_rfl
theorem r142:Tryz.f142.results.toList.mapM (trR Tryz.prog)=some [.tmp 4]:=by kernel_rfl
theorem fn142{args:List Value}{M:Mem}{post:Value→Mem→Prop}(hl:args.length≤41)(h:VC e142 c142 (fnQ [.tmp 4] post) (initS args 41) M):Fn Tryz.prog 142 args M post:=
 Fn.of' (E:=e142) Tryz.func142 t142 rfl r142 mixed hl h
noncomputable def e143:Env:=⟨Tryz.prog,[],37,[(2,9)]⟩
noncomputable def c143:C:=
 .seq (.seq (.reg [z3 4 0,z6 5 4,z4 6 9 5,z5 7 1 6,z7 8 7 0,z3 9 8,zP 10 9 1,q0 11 9 10 0,zO 12 9 11]) (.cond (.tmp 12) .ret .skip)) (.seq (.seq (.reg [z3 13 0,z6 14 13,z4 15 5 14,z5 16 1 15,z7 17 16 0]) (.cond (.tmp 17) (.seq (.seq (.dreg 9 [z3 18 0,z6 19 18,z4 20 1 19,z5 21 1 20,z3 22 0,z6 23 22,z4 24 10 23,z5 25 1 24,qV 26 21 25]) (.cond (.tmp 26) .ret .skip)) (.reg [z3 27 0,zM 28 60 27]))
 .skip)) (.reg [z3 29 0,z3 30 0,z6 31 30,z4 32 9 31,z5 33 1 32,z3 34 1,⟨some 35,none,.bin .mul (.tmp 33) (.tmp 34)⟩,zU 36 50 29 35]))
theorem t143:Tryz.f143.body.bind (trC e143)=some c143:=by kernel_rfl
theorem r143:Tryz.f143.results.toList.mapM (trR Tryz.prog)=some []:=by kernel_rfl
theorem fn143{args:List Value}{M:Mem}{post:Value→Mem→Prop}(hl:args.length≤37)(h:VC e143 c143 (fnQ [] post) (initS args 37) M):Fn Tryz.prog 143 args M post:=
 Fn.of' (E:=e143) Tryz.func143 t143 rfl r143 mixed hl h
noncomputable def e145:Env:=⟨Tryz.prog,[],30,[]⟩
noncomputable def c145:C:=
 .block 0 (.loop (.seq (.seq (.reg [z3 6 0,z6 7 6,z4 8 4 7,z5 9 1 8,z3 10 1,z9 11 8 9 10,z4 12 7 11,z5 13 1 12,zG 14 13,z3 15 2,⟨some 16,none,.bin .gtr (.tmp 14) (.tmp 15)⟩]) (.cond (.tmp 16) .skip (.exit 0))) (.block 1 (.reg [z3 17 0,z3 18 1,z3 19 0,z6 20 19,z4 21 4 20,z5 22 1 21,z3 23 1,z9 24 8 22 23,z4 25 7 24,z5 26 1 25,zG 27 26,za 28 27 1,qU 29 79 17 18 28]))))
theorem t145:Tryz.f145.body.bind (trC e145)=some c145:=by kernel_rfl
theorem r145:Tryz.f145.results.toList.mapM (trR Tryz.prog)=some []:=by kernel_rfl
theorem fn145{args:List Value}{M:Mem}{post:Value→Mem→Prop}(hl:args.length≤30)(h:VC e145 c145 (fnQ [] post) (initS args 30) M):Fn Tryz.prog 145 args M post:=
 Fn.of' (E:=e145) Tryz.func145 t145 rfl r145 mixed hl h
noncomputable def e139:Env:=⟨Tryz.prog,[4],34,[]⟩
noncomputable def c139:C:=
 .seq (.reg [qR 4 0 0]) (.seq (.reg [z3 6 0,zM 7 38 6,z3 5 7]) (.seq (.seq (.reg [z3 8 5,qP 9 8 0]) (.cond (.tmp 9) (.seq (.reg [z3 10 0,z6 11 10,z4 12 3 11,z5 13 1 12,z3 14 1,⟨some 15,none,.build [.int .i64 0,.int .i64 0,.int .i64 0] []⟩,z9 16 3 13 14,z8 3 16 15]) (.seq (.reg [zn 17 138 0,z8 2 4 17]) .ret)) .skip)) (.seq (.reg [z3 18 0,z6 19 18,z4 20 4 19,z5 21 1 20,z3 22 5,z9 23 8 21 22,z4
 24 3 23,qH 1 24 3]) (.seq (.reg [z3 25 0,z6 26 25,z4 27 3 26,z5 28 1 27,z3 29 1,z3 30 5,qE 31 0 0 0 0 1 2 2 1 30,z9 32 3 28 29,z8 3 32 31]) (.seq (.reg [zn 33 138 1,z8 2 4 33]) .ret)))))
theorem t139:Tryz.f139.body.bind (trC e139)=some c139:=by kernel_rfl
theorem r139:Tryz.f139.results.toList.mapM (trR Tryz.prog)=some [.cell 4 false 2]:=by kernel_rfl
theorem fn139{args:List Value}{M:Mem}{post:Value→Mem→Prop}(hl:args.length≤34)(h:VC e139 c139 (fnQ [.cell 4 false 2] post) (initS args 34) M):Fn Tryz.prog 139 args M post:=
 Fn.of' (E:=e139) Tryz.func139 t139 rfl r139 mixed hl h
noncomputable def e136:Env:=⟨Tryz.prog,[3,4,7],136,[(7,12),(9,13),(11,9),(13,11),(16,11),(19,9),(20,12),(21,9)]⟩
noncomputable def c136:C:=
 .seq (.reg [zZ 3 1,qR 4 0 0]) (.seq (.reg [z4 8 1 3,z5 9 1 8,z3 5 9]) (.seq (.seq (.reg [z4 10 0 3,z5 11 1 10,z7 12 11 5,z3 13 12,zI 14 13 0 3,zK 15 13 1 14,q0 16 13 15 6,zO 17 13 16]) (.cond (.tmp 17) (.reg [z4 18 2 3,z5 19 1 18,z3 5 19]) .skip)) (.seq (.seq (.reg [z3 20 0,z6 21 20,z4 22 3 21,z5 23 1 22,z3 24 5,z9 25 3 23 24,z4 26 0 25,z5 27 1 26,zk 28 27 2]) (.cond (.tmp 28) (.seq (.reg [
 zn 29 134 2,z8 2 4 29]) .ret) .skip)) (.seq (.reg [z3 30 0,z6 31 30,z4 32 3 31,z5 33 1 32,z3 34 5,z9 35 3 33 34,z4 36 2 35,z5 37 1 36,z3 6 37]) (.seq (.seq (.dreg 12 [z4 38 3 3,z5 39 1 38,z3 40 0,z6 41 40,z4 42 4 41,z5 43 1 42,z3 44 6,z9 45 8 43 44,z4 46 7 45,z5 47 1 46,zG 48 47,qo 49 39 48]) (.cond (.tmp 49) (.seq (.reg [zn 50 134 3,z8 2 4 50]) .ret) .skip)) (.seq (.dreg 13 [z3 51 0,z6 52 51,
 z4 53 4 52,z5 54 1 53,z3 55 6,z9 56 8 54 55,z4 57 7 56,z5 58 1 57,z4 59 3 3,z5 60 1 59,z9 61 6 58 60,zA 62 6 61,zy 7 0 0 0 0 0 0,z8 6 7 62]) (.seq (.seq (.reg [z4 63 0 3,z5 64 1 63]) (.block 0 (.seq (.reg [z7 75 64 5,z3 74 75]) (.cond (.tmp 74) (.seq (.dreg 11 [z3 76 0,z6 77 76,z4 78 3 77,z5 79 1 78,z4 80 1 3,z5 81 1 80,z3 82 0,z4 83 0 7,zA 84 3 83,qi 85 122 82 84,z9 86 3 79 81,z8 3 86 85])
 (.seq (.reg [zn 87 138 0,z8 2 4 87]) .ret)) (.seq (.reg [z7 89 64 6,z3 88 89]) (.cond (.tmp 88) (.seq (.dreg 11 [z3 90 0,z6 91 90,z4 92 3 91,z5 93 1 92,z4 94 1 3,z5 95 1 94,z3 96 0,z4 97 3 7,zA 98 3 97,qi 99 122 96 98,z9 100 3 93 95,z8 3 100 99]) (.seq (.reg [zn 101 138 0,z8 2 4 101]) .ret)) (.seq (.reg [z7 103 64 7,z3 102 103]) (.cond (.tmp 102) (.dreg 9 [z3 104 0,z6 105 104,z4 106 3 105,
 z5 107 1 106,z4 108 2 3,z5 109 1 108,z9 110 3 107 109,zA 111 3 110,z4 112 0 7,z8 3 112 111]) (.dreg 9 [z3 65 0,z6 66 65,z4 67 3 66,z5 68 1 67,z4 69 2 3,z5 70 1 69,z9 71 3 68 70,zA 72 3 71,z4 73 3 7,z8 3 73 72]))))))))) (.seq (.dreg 12 [z3 113 0,z6 114 113,z4 115 4 114,z5 116 1 115,z3 117 6,z9 118 8 116 117,z4 119 7 118,z5 120 1 119,z4 121 3 3,z5 122 1 121,zA 123 6 7,z9 124 6 120 122,z8 6 124
 123]) (.seq (.dreg 9 [z3 125 0,z3 126 0,z6 127 126,z4 128 3 127,z5 129 1 128,z4 130 2 3,z5 131 1 130,z9 132 3 129 131,zA 133 3 132,zU 134 128 125 133]) (.seq (.reg [zn 135 138 0,z8 2 4 135]) .ret))))))))))
theorem t136:Tryz.f136.body.bind (trC e136)=some c136:=by kernel_rfl
theorem r136:Tryz.f136.results.toList.mapM (trR Tryz.prog)=some [.cell 4 false 2]:=by kernel_rfl
theorem fn136{args:List Value}{M:Mem}{post:Value→Mem→Prop}(hl:args.length≤136)(h:VC e136 c136 (fnQ [.cell 4 false 2] post) (initS args 136) M):Fn Tryz.prog 136 args M post:=
 Fn.of' (E:=e136) Tryz.func136 t136 rfl r136 mixed hl h
noncomputable def e137:Env:=⟨Tryz.prog,[3,4,5],89,[(1,9),(10,10),(12,10),(16,10),(18,11)]⟩
noncomputable def c137:C:=
 .seq (.reg [zZ 3 1,qR 4 0 0]) (.seq (.dreg 9 [z3 6 0,z6 7 6,z4 8 3 7,z5 9 1 8,z4 10 1 3,z5 11 1 10,z9 12 3 9 11,zA 13 3 12,zo 5 0 0 0,z8 3 5 13]) (.seq (.seq (.reg [z4 14 0 5,z5 15 1 14,zk 16 15 2]) (.cond (.tmp 16) (.seq (.reg [zn 17 134 2,z8 2 4 17]) .ret) .skip)) (.seq (.seq (.reg [z4 18 0 3,z5 19 1 18]) (.block 0 (.seq (.reg [z7 21 19 9,z3 20 21]) (.cond (.tmp 20) (.seq (.reg [z3 22 0,
 zA 23 5 3,zU 24 144 22 23,z8 2 4 24]) .ret) (.seq (.reg [z7 26 19 10,z3 25 26]) (.cond (.tmp 25) (.reg [z3 27 0,z4 28 2 5,z5 29 1 28,z4 30 3 3,z5 31 1 30,qU 32 145 27 29 31]) (.seq (.reg [z7 34 19 11,z3 33 34]) (.cond (.tmp 33) (.dreg 10 [z3 35 0,z6 36 35,z4 37 4 36,z5 38 1 37,z4 39 2 5,z5 40 1 39,z4 41 3 3,z5 42 1 41,z9 43 8 38 40,z4 44 2 43,z8 1 44 42]) (.seq (.reg [z7 46 19 12,z3 45 46])
 (.cond (.tmp 45) (.seq (.dreg 10 [z3 47 0,z6 48 47,z4 49 4 48,z5 50 1 49,z4 51 2 5,z5 52 1 51,z4 53 3 3,z5 54 1 53,z9 55 8 50 52,z4 56 3 55,z8 1 56 54]) (.seq (.reg [z4 57 3 3,z5 58 1 57,z7 59 58 1]) (.cond (.tmp 59) (.reg [z3 60 0,zA 61 3 5,zU 62 128 60 61]) .skip))) (.seq (.reg [z7 64 19 16,z3 63 64]) (.cond (.tmp 63) (.seq (.dreg 10 [z3 65 0,z6 66 65,z4 67 4 66,z5 68 1 67,z4 69 2 5,z5 70
 1 69,z9 71 8 68 70,z4 72 1 71,z5 73 1 72,qX 74 138 73,z8 2 4 74]) .ret) (.seq (.reg [z7 76 19 17,z3 75 76]) (.cond (.tmp 75) (.seq (.dreg 11 [z3 77 0,z6 78 77,z4 79 4 78,z5 80 1 79,z4 81 2 5,z5 82 1 81,z9 83 8 80 82,z4 84 7 83,z5 85 1 84,zG 86 85,qX 87 138 86,z8 2 4 87]) .ret) .skip)))))))))))))) (.seq (.reg [zn 88 138 0,z8 2 4 88]) .ret))))
theorem t137:Tryz.f137.body.bind (trC e137)=some c137:=by kernel_rfl
theorem r137:Tryz.f137.results.toList.mapM (trR Tryz.prog)=some [.cell 4 false 2]:=by kernel_rfl
theorem fn137{args:List Value}{M:Mem}{post:Value→Mem→Prop}(hl:args.length≤89)(h:VC e137 c137 (fnQ [.cell 4 false 2] post) (initS args 89) M):Fn Tryz.prog 137 args M post:=
 Fn.of' (E:=e137) Tryz.func137 t137 rfl r137 mixed hl h
noncomputable def e130:Env:=⟨Tryz.prog,[3,4],180,[(7,10),(9,8),(11,15),(25,17),(28,10),(30,10),(32,10)]⟩
noncomputable def c130:C:=
 .seq (.reg [zZ 3 1,qR 4 0 0]) (.seq (.seq (.reg [zA 7 5 3,zM 8 133 7,zV 9 8]) (.cond (.tmp 9) (.seq (.reg [zn 10 134 1,z8 2 4 10]) .ret) .skip)) (.seq (.seq (.reg [z4 11 0 3,z5 12 1 11]) (.block 0 (.seq (.reg [z7 14 12 1,z3 13 14]) (.cond (.tmp 13) (.seq (.reg [z3 15 0,zA 16 5 3,zU 17 135 15 16,z8 2 4 17]) .ret) (.seq (.reg [z7 19 12 2,z3 18 19]) (.cond (.tmp 18) (.dreg 10 [z3 20 0,z6 21
 20,z4 22 3 21,z5 23 1 22,z4 24 1 3,z5 25 1 24,z4 26 4 3,z5 27 1 26,qE 28 0 0 0 0 1 1 1 1 27,z9 29 3 23 25,z8 3 29 28]) (.seq (.reg [z7 31 12 3,z3 30 31]) (.cond (.tmp 30) (.dreg 8 [z3 32 0,z6 33 32,z4 34 3 33,z5 35 1 34,z4 36 1 3,z5 37 1 36,⟨some 38,none,.build [.int .i64 0,.int .i64 0,.int .i64 0] []⟩,z9 39 3 35 37,z8 3 39 38]) (.seq (.reg [z7 41 12 4,z3 40 41]) (.cond (.tmp 40) (.dreg 15 [
 z3 42 0,z6 43 42,z4 44 3 43,z5 45 1 44,z4 46 1 3,z5 47 1 46,z3 48 0,z6 49 48,z4 50 3 49,z5 51 1 50,z4 52 2 3,z5 53 1 52,z9 54 3 51 53,zA 55 3 54,z9 56 3 45 47,z8 3 56 55]) (.seq (.seq (.reg [z7 58 12 5,z3 57 58]) (.cond (.tmp 57) .skip (.seq (.reg [z7 59 12 6,z3 57 59]) (.cond (.tmp 57) .skip (.seq (.reg [z7 60 12 7,z3 57 60]) (.cond (.tmp 57) .skip (.reg [z7 61 12 8,z3 57 61]))))))) (.cond
 (.tmp 57) (.seq (.reg [z3 62 0,zA 63 5 3,zU 64 136 62 63,z8 2 4 64]) .ret) (.seq (.seq (.reg [z7 66 12 9,z3 65 66]) (.cond (.tmp 65) .skip (.seq (.reg [z7 67 12 10,z3 65 67]) (.cond (.tmp 65) .skip (.seq (.reg [z7 68 12 11,z3 65 68]) (.cond (.tmp 65) .skip (.seq (.reg [z7 69 12 12,z3 65 69]) (.cond (.tmp 65) .skip (.seq (.reg [z7 70 12 16,z3 65 70]) (.cond (.tmp 65) .skip (.reg [z7 71 12
 17,z3 65 71]))))))))))) (.cond (.tmp 65) (.seq (.reg [z3 72 0,zA 73 5 3,zU 74 137 72 73,z8 2 4 74]) .ret) (.seq (.reg [z7 76 12 13,z3 75 76]) (.cond (.tmp 75) (.seq (.dreg 17 [z3 77 0,z6 78 77,z4 79 3 78,z5 80 1 79,z4 81 1 3,z5 82 1 81,z9 83 3 80 82,zA 84 3 83,z3 85 0,z6 86 85,z4 87 3 86,z5 88 1 87,z4 89 2 3,z5 90 1 89,z9 91 3 88 90,zA 92 3 91,⟨some 93,none,.eqA false 3 (.tmp 84) (.tmp 92)⟩])
 (.cond (.tmp 93) (.seq (.reg [zn 94 138 1,z8 2 4 94]) .ret) .skip)) (.seq (.reg [z7 96 12 14,z3 95 96]) (.cond (.tmp 95) (.seq (.dreg 10 [z3 97 0,z6 98 97,z4 99 3 98,z5 100 1 99,z4 101 1 3,z5 102 1 101,z9 103 3 100 102,z4 104 0 103,z5 105 1 104,qX 106 138 105,z8 2 4 106]) .ret) (.seq (.reg [z7 108 12 15,z3 107 108]) (.cond (.tmp 107) (.seq (.seq (.dreg 10 [z3 109 0,z6 110 109,z4 111 3 110,z5
 112 1 111,z4 113 1 3,z5 114 1 113,z9 115 3 112 114,z4 116 0 115,z5 117 1 116,zk 118 117 1]) (.cond (.tmp 118) (.seq (.reg [zn 119 134 2,z8 2 4 119]) .ret) .skip)) (.seq (.dreg 10 [z3 120 0,z6 121 120,z4 122 3 121,z5 123 1 122,z4 124 1 3,z5 125 1 124,z9 126 3 123 125,z4 127 1 126,z5 128 1 127,jA 129 0 0 1 1 128,z8 2 4 129]) .ret)) (.seq (.reg [z7 131 12 18,z3 130 131]) (.cond (.tmp 130) (.seq
 (.reg [z3 133 0,zM 134 32 133,z3 132 134,q8 135 132 0,q8 136 132 1,z3 5 135,z3 6 136]) (.seq (.reg [z3 137 6,zM 138 138 137,z8 2 4 138]) .ret)) (.seq (.reg [z7 140 12 19,z3 139 140]) (.cond (.tmp 139) (.seq (.reg [z3 141 0,z4 142 1 3,z5 143 1 142,zU 144 139 141 143,z8 2 4 144]) .ret) (.seq (.reg [z7 146 12 20,z3 145 146]) (.cond (.tmp 145) (.seq (.reg [z3 147 0,z3 148 0,zM 149 77 148,zU 150
 91 147 149,zM 151 138 150,z8 2 4 151]) .ret) (.seq (.reg [z7 153 12 21,z3 152 153]) (.cond (.tmp 152) (.seq (.reg [z3 154 0,zM 155 54 154,zM 156 138 155,z8 2 4 156]) .ret) (.seq (.reg [z7 158 12 22,z3 157 158]) (.cond (.tmp 157) (.reg [z3 159 0,z4 160 3 3,z5 161 1 160,zU 162 50 159 161]) (.seq (.reg [z7 164 12 23,z3 163 164]) (.cond (.tmp 163) (.seq (.reg [z3 165 0,z4 166 2 3,z5 167 1 166,
 z6 168 165,z4 169 9 168,z8 1 169 167]) (.reg [z3 170 0,z4 171 3 3,z5 172 1 171,z6 173 170,z4 174 10 173,z8 1 174 172])) (.seq (.reg [z7 176 12 24,z3 175 176]) (.cond (.tmp 175) (.reg [z3 177 0,zM 178 55 177]) .skip)))))))))))))))))))))))))))))))))) (.seq (.reg [zn 179 138 0,z8 2 4 179]) .ret)))
theorem t130:Tryz.f130.body.bind (trC e130)=some c130:=by kernel_rfl
theorem r130:Tryz.f130.results.toList.mapM (trR Tryz.prog)=some [.cell 4 false 2]:=by kernel_rfl
theorem fn130{args:List Value}{M:Mem}{post:Value→Mem→Prop}(hl:args.length≤180)(h:VC e130 c130 (fnQ [.cell 4 false 2] post) (initS args 180) M):Fn Tryz.prog 130 args M post:=
 Fn.of' (E:=e130) Tryz.func130 t130 rfl r130 mixed hl h
end Go.Proofs.YtcjmodomfilagaaGreat.E
set_option linter.unusedSimpArgs false
set_option maxHeartbeats 8000000
namespace Go.Proofs.YtcjmodomfilagaaGreat.E
open Go
open Classical
def an(c n:Int):Value:=.agg #[.int .i64 c,.int .i64 n]
def actV(a:Act):Value:=.agg (av a).toArray
theorem l5fine_q{m:Mem}{n:Int}:Qt Tryz.prog 138 [.int .i64 n] m (an 0 n):=by
 refine qt_of (fnA_of (fun h=>fn138 (by simp) h) ?_)
 repeat' (first
  |(refine k_L ?_;first|refine a_p rfl ?_|(refine k_st ?_;refine g_sw rfl rfl rfl rfl (Nat.le_of_ble_eq_true rfl) ?_)|(refine k_al ?_;refine a_al ?_))
  |refine a_n ?_
  |(refine k_V ?_;first|refine v_seq ?_|refine v_reg ?_|refine v_ret ?_)
  |refine sk_zero ?_
  |refine sk_succ ?_
  |refine wk_nil ?_
  |refine wk_cons ?_)
 exact fa_q (by simp) (fun _ _=>rfl) rfl
theorem l5bad_q{m:Mem}{n:Int}:Qt Tryz.prog 134 [.int .i64 n] m (an n 0):=by
 refine qt_of (fnA_of (fun h=>fn134 (by simp) h) ?_)
 repeat' (first
  |(refine k_L ?_;first|refine a_p rfl ?_|(refine k_st ?_;refine g_sw rfl rfl rfl rfl (Nat.le_of_ble_eq_true rfl) ?_)|(refine k_al ?_;refine a_al ?_))
  |refine a_n ?_
  |(refine k_V ?_;first|refine v_seq ?_|refine v_reg ?_|refine v_ret ?_)
  |refine sk_zero ?_
  |refine sk_succ ?_
  |refine wk_nil ?_
  |refine wk_cons ?_)
 exact fa_q (by simp) (fun _ _=>rfl) rfl
def rA(op:Int):Bool:=decide (op=1∨op=2∨op=3∨op=9∨op=10∨op=11∨op=12∨op=14∨op=15∨op=16∨op=17∨op=19)||rB op
where rB (op:Int):Bool:=decide (op=4∨op=5∨op=6∨op=7∨op=8∨op=13)
theorem l5reg_q{m:Mem}{op:Int}:Qt Tryz.prog 140 [.int .i64 op] m (.tuple #[.bool (rA op),.bool (rA.rB op)]):=by
 refine qt_of (fnA_of (fun h=>fn140 (by simp) h) ?_)
 repeat' (first
  |(refine k_L ?_;refine a_p rfl ?_)
  |refine a_n ?_
  |(refine k_V ?_;first|refine v_seq ?_|refine v_reg ?_|refine v_bs ?_|refine v_ret ?_|refine v_skip ?_|(refine v_cd rfl (fun hb=>?_) (fun hb=>?_)<;>try(exfalso;omega)))
  |refine s_r ?_
  |refine b_r ?_)
 all_goals exact fa_q (by simp) (fun _ _=>rfl) (by unfold rA rA.rB;simp_all<;>omega)
theorem l5most_q{m:Mem}{op:Int}:Qt Tryz.prog 141 [.int .i64 op] m (.tuple #[.int .i64 (bMost op),.int .i64 (cMost op)]):=by
 refine qt_of (fnA_of (fun h=>fn141 (by simp) h) ?_)
 repeat' (first
  |(refine k_L ?_;refine a_p rfl ?_)
  |refine a_n ?_
  |(refine k_V ?_;first|refine v_seq ?_|refine v_reg ?_|refine v_bs ?_|refine v_ret ?_|refine v_skip ?_|(refine v_cd rfl (fun hb=>?_) (fun hb=>?_)<;>try(exfalso;omega)))
  |refine s_r ?_
  |refine b_r ?_)
 all_goals exact fa_q (by simp) (fun _ _=>rfl) (by unfold bMost cMost;simp_all<;>omega)
theorem rA_most(op:Int)(h:1≤op∧op≤24):aMost op=if rA op=true then 15 else 0:=by
 unfold aMost rA rA.rB
 by_cases e:op=18∨20≤op
 ·rw[if_pos e,if_neg]
  simp only[Bool.or_eq_true,decide_eq_true_eq]
  omega
 ·rw[if_neg e,if_pos]
  simp only[Bool.or_eq_true,decide_eq_true_eq]
  omega
theorem specActOk_q{m:Mem}{a:Act}:Qt Tryz.prog 133 [actV a] m (.bool (decide (ActP a))):=by
 refine qt_of (fnA_of (fun h=>fn133 (by simp) h) ?_)
 have hm:=rA_most a.op
 cases hr:rA a.op with
 |true=>
  rw[hr,if_pos rfl]at hm
  repeat' (first
   |(refine k_L ?_;first|refine a_p rfl ?_|(refine k_g ?_;first|refine a_gy rfl rfl ?_|refine a_gn rfl rfl ?_|refine a_gu rfl ?_|(refine a_gd rfl (fun hb=>?_) (fun hb=>?_)<;>try(exfalso;omega))|(refine a_gne rfl (fun hb=>?_) (fun hb=>?_)<;>try(exfalso;omega))|(refine a_gnd rfl (fun hb=>?_) (fun hb=>?_)<;>try(exfalso;omega)))|(refine k_bx ?_;refine a_bx rfl rfl ?_)|(refine k_c ?_;first|refine a_cq rfl (fun m hm=>qt_e l5reg_q (by rw[hr])) ?_|refine a_cq rfl (fun m hm=>spec.l1inQ) ?_|refine a_cq rfl (fun m hm=>l5most_q) ?_))
   |refine a_n ?_
   |(refine k_V ?_;first|refine v_rv ?_|refine v_seq ?_|refine v_reg ?_|refine v_ret ?_|refine v_skip ?_|refine v_ct rfl ?_|refine v_cf rfl ?_|(refine v_cn rfl (fun hb=>?_) (fun hb=>?_)<;>try(exfalso;omega)))
   |refine s_r ?_)
  all_goals first
   |exact q_F (fun h=>by unfold ActP at h;omega)
   |exact q_B (fun _ _=>rfl) (by unfold ActP;rw[decide_eq_true_eq];omega)
 |false=>
  rw[hr,if_neg (by simp)]at hm
  repeat' (first
   |(refine k_L ?_;first|refine a_p rfl ?_|(refine k_g ?_;first|refine a_gy rfl rfl ?_|refine a_gn rfl rfl ?_|refine a_gu rfl ?_|(refine a_gd rfl (fun hb=>?_) (fun hb=>?_)<;>try(exfalso;omega))|(refine a_gne rfl (fun hb=>?_) (fun hb=>?_)<;>try(exfalso;omega)))|(refine k_bx ?_;refine a_bx rfl rfl ?_)|(refine k_c ?_;first|refine a_cq rfl (fun m hm=>qt_e l5reg_q (by rw[hr])) ?_|refine a_cq rfl (fun m hm=>spec.l1inQ) ?_|refine a_cq rfl (fun m hm=>l5most_q) ?_))
   |refine a_n ?_
   |(refine k_V ?_;first|refine v_rv ?_|refine v_seq ?_|refine v_reg ?_|refine v_ret ?_|refine v_skip ?_|refine v_ct rfl ?_|refine v_cf rfl ?_|(refine v_cn rfl (fun hb=>?_) (fun hb=>?_)<;>try(exfalso;omega)))
   |refine s_r ?_)
  all_goals first
   |exact q_F (fun h=>by unfold ActP at h;omega)
   |exact q_B (fun _ _=>rfl) (by unfold ActP;rw[decide_eq_true_eq];omega)
theorem reachL_at{H:Heap}{i:Nat}(h:(reachL H)[i]?=some true):Reached H i:=by
 unfold reachL at h
 rw[List.getElem?_map]at h
 by_cases hi:i<H.cells.length
 ·rw[List.getElem?_range hi]at h
  simpa using h
 ·rw[List.getElem?_eq_none (by simp;omega)]at h
  cases h
theorem l2live_a{m:Mem}{a:Nat}{x:HX}(h:Has m (hp a x))(h1:R1 x.H)(h2:R2 x.H)(h4:R4 x.H):FnA Tryz.prog 54 [ptr a] [ro m] (fun v As=>v=.int .i64 (sumT x.H (reachL x.H) x.xs.length)∧As=[ro m]):=by
 refine fnA_of (fun h=>fn54 (by simp) h) ?_
 repeat' (first
  |(refine k_L ?_;refine a_p rfl ?_)
  |refine a_n ?_
  |(refine k_V ?_;first|refine v_seq ?_|refine v_reg ?_))
 refine g_c rfl (l2reach_a h h1 h2 h4) (fun v As' hq=>?_)
 obtain⟨sd,kd,Q,rfl,rfl⟩:=hq
 repeat' (first
  |(refine k_L ?_;refine a_p rfl ?_)
  |refine a_n ?_
  |(refine k_V ?_;first|refine v_seq ?_|refine v_reg ?_))
 refine g_c rfl (l2sum_a (L:=reachL x.H) h h1 h2 (by rw[reachL_len,x.len]) (fun i c hi hc=>?_)) (fun v As' hq=>?_)
 ·obtain⟨c',hc',hs,_⟩:=reached_ok h2 h4 (reachL_at hi)
  rw[hc]at hc';cases hc';exact hs
 obtain⟨rfl,rfl⟩:=hq
 repeat' (first
  |(refine k_L ?_;refine a_p rfl ?_)
  |refine a_n ?_
  |(refine k_V ?_;refine v_ret ?_))
 exact fa_r (As':=[ro m]) (fun _ _=>rfl) (Pm.ent pmt) ⟨rfl,rfl⟩
section
variable {α:Type} {g:Int→α→α} {w:α→Int}
def mkG(g:Int→α→α)(w:α→Int):Int→List α→List α
 |_,[]=>[]
 |k,x::r=>g k x::mkG g w (k+w x) r
end
theorem OffL.refl(M:Mem)(L:List Nat):OffL M L M:=fun _ _ h _=>h
theorem OffL.trans{M0 M M':Mem}{L:List Nat}(h:OffL M0 L M)(o:OffL M L M'):OffL M0 L M':=fun c k e hc=>o c k (h c k e hc) hc
theorem OffL.mono{M M':Mem}{L L':List Nat}(h:OffL M L M')(l:∀b,b∈L→b∈L'):OffL M L' M':=fun c k e hc=>h c k e (fun m=>hc (l c m))
theorem OffL.le{M0 M M':Mem}{L:List Nat}(h:OffL M L M')(l:M0.le M)(hn:∀b,b∈L→M0 b=none):M0.le M':=fun c k e=>h c k (l c k e) (fun m=>by rw[hn c m]at e;cases e)
def gP(k:Int)(_:Pair):Pair:=⟨⟨k,k+1,k+1+1⟩,⟨k+1+1+1,k+1+1+1+1,k+1+1+1+1+1⟩⟩
def wP(_:Pair):Int:=6
theorem Sl.congr{M:Mem}{α:Type}{f:α→List Value}{size:Nat}{v:Value}{xs ys:List α}(h:Sl M size f v xs)(e:xs.map f=ys.map f):Sl M size f v ys:=by
 have hl:xs.length=ys.length:=by have:=congrArg List.length e;simpa using this
 have hf:xs.flatMap f=ys.flatMap f:=by rw[List.flatMap_def,List.flatMap_def,e]
 rcases h with⟨c,h1,h2,rfl⟩|⟨b,o,cap,row,h1,hM,hc,h2,hr,he⟩
 ·exact .inl ⟨c,h1,h2,by cases ys with|nil=>rfl|cons y r=>simp at hl⟩
 ·rw[hl]at h1 hc h2 he
  exact .inr ⟨b,o,cap,row,h1,hM,hc,h2,hr,by rw[he,hf]⟩
def gC(k:Int)(c:Cell):Cell:=⟨k,k+1,k+1+1,k+1+1+1,k+1+1+1+1,k+1+1+1+1+1,k+1+1+1+1+1+1,mkG gP wP (k+1+1+1+1+1+1+1) c.pairs⟩
theorem fna_ro{P:Program}{f:FuncId}{args:List Value}{Bs:List Asr}{q:Value→List Asr→Prop}(h:∀m,star Bs m→FnA P f args [ro m] (fun v As=>∃E,q v E∧As=E++[ro m])):FnA P f args Bs (fun v As=>∃E,q v E∧As=E++Bs):=
 ⟨fun m hm=>((h m hm).out m ⟨m,emp,disj_emp _,(un_emp _).symm,rfl,rfl⟩).mono fun v M' ⟨As',m',l,s,E,hq,e⟩=>by
   subst e
   obtain⟨a,b,d,rfl,h1,⟨b1,b2,d2,rfl,h2,h3⟩⟩:=star_append.1 s
   have h2:b1=m:=h2
   have h3:b2=emp:=h3
   subst h2;subst h3
   rw[un_emp]at d l
   exact⟨E++Bs,_,l,star_append.2 ⟨a,b1,d,rfl,h1,hm⟩,E,hq,rfl⟩⟩
theorem has_star{m:Mem}{Bs:List Asr}(h:star Bs m):Has m Bs:=⟨m,Mem.le_refl _,h⟩
theorem Has.sl{α:Type}{f:α→List Value}{size:Nat}{d:D}{xs:List α}{m:Mem}(h:Has m [slA size f d xs]):Sl m size f (.slice d.a xs.length d.cap) xs:=by
 obtain⟨a,l,b,c,dj,rfl,h1,_⟩:=h
 exact h1.1.le (Mem.le_trans (le_l _ _) l)
noncomputable def Heap.reach(H:Heap):List Bool:=if okH H=0 then reachL H else[]
theorem implReach_a{m:Mem}{x:HX}(h:Has m x.body):FnA Tryz.prog 8 [x.v] [ro m] (fun v As=>∃E,(∃sd:D,v=.slice sd.a x.H.reach.length sd.cap∧E=[slA 1 bv sd x.H.reach])∧As=E++[ro m]):=by
 unfold Heap.reach
 refine fnA_of (fun h=>fn8 (by simp) h) ?_
 refine v_seq (v_reg (a_nwh x rfl (fun b=>?_)))
 have hs:∀m',star [hdA b x.hdr,ro m] m'→Has m' (hp b x):=fun m' s=>has_new h s pmt (F:=[])
 have hr:∀m',star [hdA b x.hdr,ro m] m'→m.le m':=fun m' s=>ro_of s pmt (F:=[hdA b x.hdr])
 by_cases hS:okH x.H=0
 ·have hs1:=(okH_sound x.H).1 hS
  rw[if_pos hS]
  repeat' (first
   |(refine k_L ?_;first|refine a_p rfl ?_|(refine k_ls ?_;refine g_ls rfl ?_)|(refine k_c ?_;refine a_cq rfl (fun m hm=>qt_e (sound_q (x:=x) (has_g h hm)) (congrArg Value.bool (decide_eq_true hS))) ?_))
   |refine a_n ?_
   |(refine k_V ?_;first|refine v_seq ?_|refine v_reg ?_|refine v_skip ?_|refine v_cf rfl ?_))
  refine l_fix (fun m' hm'=>?_)
  refine g_c rfl (reach_a (hs m' hm') hs1.r1 hs1.r2 hs1.r4) (fun v As' hq=>?_)
  obtain⟨sd,rfl,rfl⟩:=hq
  repeat' (first
   |(refine k_L ?_;refine a_p rfl ?_)
   |refine a_n ?_
   |(refine k_V ?_;refine v_ret ?_))
  exact fa_r (As':=[slA 1 bv sd (reachL x.H),ro m]) (fun _ _=>rfl) (Ent.cons (ent_ro (hr m' hm'))) ⟨_,⟨sd,rfl,rfl⟩,rfl⟩
 ·rw[if_neg hS]
  repeat' (first
   |(refine k_L ?_;first|refine a_p rfl ?_|(refine k_ls ?_;refine g_ls rfl ?_)|(refine k_c ?_;refine a_cq rfl (fun m hm=>qt_e (sound_q (x:=x) (has_g h hm)) (congrArg Value.bool (decide_eq_false hS))) ?_))
   |refine a_n ?_
   |(refine k_V ?_;first|refine v_rv ?_|refine v_seq ?_|refine v_reg ?_|refine v_ct rfl ?_)
   |refine s_r ?_)
  exact fa_r (As':=[slA 1 bv ⟨none,0⟩ [],ro m]) (fun _ _=>rfl) ((Pm.ent (As1:=[ro m]) pmt).trans ent_new) ⟨_,⟨⟨none,0⟩,rfl,rfl⟩,rfl⟩
end Go.Proofs.YtcjmodomfilagaaGreat.E
namespace Go.Proofs.YtcjmodomfilagaaGreat.E
open Go
noncomputable def e28:Env:=⟨Tryz.prog,[5,36],40,[]⟩
noncomputable def c28:C:=
 .seq (.reg [zt 1 0,qg 2]) (.seq (.reg [jB 6 0 3,z4 7 3 1,z5 8 1 7,j9 9 3 24 0 0 0 6 8,z4 10 3 1,z8 1 10 9]) (.seq (.reg [jB 11 0 1,z4 12 8 1,z5 13 1 12,qW 14 1 8 0 11 13,z4 15 8 1,z8 1 15 14]) (.seq (.reg [z4 16 4 1,z5 17 1 16,z3 3 17]) (.seq (.reg [z3 18 3,zG 19 18,⟨some 20,none,.mkslice 8 80 [.int .i64 0,.int .i64 0,.int .i64 0,.int .i64 0,.int .i64 0,.int .i64 0,.int .i64 0,.slice none 0
 0] (.const (.int .i64 0)) (.tmp 19)⟩,z4 21 4 1,z8 1 21 20]) (.seq (.seq (.reg [z3 22 3,zG 23 22,zC 24 0]) (.block 0 (.loop (.seq (.reg [zQ 25 24 23]) (.seq (.cond (.tmp 25) .skip (.exit 0)) (.seq (.block 1 (.seq (.reg [z9 26 8 22 24,zA 27 8 26,zX 5 0 0 0 0 0 0 0 0 0,z8 8 5 27]) (.seq (.reg [jB 28 0 6,z4 29 7 5,z5 30 1 29,qk 31 6 48 0 0 0 0 0 0 28 30,z4 32 7 5,z8 1 32 31]) (.reg [z4 33 4 1,z5
 34 1 33,zA 35 8 5,jC 36 1 8 0 0 0 0 0 0 0 0 0 0 8 35,jD 37 8 80 0 0 0 0 0 0 0 0 0 34 36,z4 38 4 1,z8 1 38 37])))) (.reg [zN 39 24 1,z3 24 39]))))))) (.seq (.reg [z3 2 1]) .ret))))))
theorem t28:Tryz.f28.body.bind (trC e28)=some c28:=by kernel_rfl
theorem r28:Tryz.f28.results.toList.mapM (trR Tryz.prog)=some [.tmp 2]:=by kernel_rfl
theorem fn28{args:List Value}{M:Mem}{post:Value→Mem→Prop}(hl:args.length≤40)(h:VC e28 c28 (fnQ [.tmp 2] post) (initS args 40) M):Fn Tryz.prog 28 args M post:=
 Fn.of' (E:=e28) Tryz.func28 t28 rfl r28 mixed hl h
noncomputable def e68:Env:=⟨Tryz.prog,[],45,[(3,17)]⟩
noncomputable def c68:C:=
 .seq (.reg [zC 2 0]) (.seq (.block 0 (.seq (.reg [z3 4 0,z6 5 4,z4 6 5 5,z5 7 1 6,z7 8 7 2,z3 9 8,zF 10 9 0,zR 11 9 10,zE 12 9 8 11,zD 13 9 1 12,zq 14 9 13,qa 15 9 14 0,zJ 16 9 15,z3 3 16]) (.cond (.tmp 3) (.seq (.reg [z3 17 0,z6 18 17,z4 19 8 18,z5 20 1 19,qh 21 1 20 0,z5 22 1 21,z3 2 22]) .ret) (.seq (.dreg 17 [z3 24 0,z6 25 24,z4 26 5 25,z5 27 1 26,z7 28 27 5,z3 29 28,zF 30 29 0,zR 31 29
 30,zE 32 29 6 31,zD 33 29 1 32,zF 34 29 0,zR 35 29 34,zE 36 29 4 35,zD 37 29 1 36,zq 38 29 37,qS 39 29 33 38,zJ 40 29 39,z3 23 40]) (.cond (.tmp 23) (.seq (.reg [z3 41 0,z6 42 41,z4 43 6 42,z5 44 1 43,z3 2 44]) .ret) .skip))))) (.seq (.reg [zC 2 (-1)]) .ret))
theorem t68:Tryz.f68.body.bind (trC e68)=some c68:=by kernel_rfl
theorem r68:Tryz.f68.results.toList.mapM (trR Tryz.prog)=some [.tmp 2]:=by kernel_rfl
theorem fn68{args:List Value}{M:Mem}{post:Value→Mem→Prop}(hl:args.length≤45)(h:VC e68 c68 (fnQ [.tmp 2] post) (initS args 45) M):Fn Tryz.prog 68 args M post:=
 Fn.of' (E:=e68) Tryz.func68 t68 rfl r68 mixed hl h
noncomputable def e29:Env:=⟨Tryz.prog,[11,103],152,[]⟩
noncomputable def c29:C:=
 .seq (.reg [zt 1 0,zC 2 0,zC 3 0]) (.seq (.reg [z5 14 1 1,zM 15 26 14,qj 4 0 0,z8 1 4 15]) (.seq (.reg [⟨some 16,none,.mkfn 67 [] [.tmp 1,.tmp 4]⟩,z3 5 16]) (.seq (.seq (.reg [z5 17 1 1,z6 18 17,z4 19 4 18,z5 20 1 19,zG 21 20,zC 22 0]) (.block 0 (.loop (.seq (.reg [zQ 23 22 21]) (.seq (.cond (.tmp 23) .skip (.exit 0)) (.seq (.block 1 (.seq (.reg [z3 24 22,z3 6 24]) (.seq (.reg [z5 25 1 1,
 z6 26 25,z4 27 4 26,z5 28 1 27,z3 29 6,z9 30 8 28 29,z3 7 30]) (.seq (.seq (.reg [z5 31 1 4,z3 32 6,z9 33 1 31 32,z5 34 1 33,zV 35 34]) (.cond (.tmp 35) (.exit 1) .skip)) (.seq (.reg [zp 8 0 0]) (.seq (.reg [z5 36 1 1,z6 37 36,z4 38 7 37,z5 39 1 38,z3 9 39]) (.seq (.seq (.reg [z3 40 7,z6 41 40,z4 42 7 41,z5 43 1 42,zG 44 43,zC 45 0]) (.block 2 (.loop (.seq (.reg [zQ 46 45 44]) (.seq (.cond
 (.tmp 46) .skip (.exit 2)) (.seq (.block 3 (.seq (.reg [z3 47 45,z9 48 6 43 45,zA 49 6 48,zy 11 0 0 0 0 0 0,z3 10 47,z8 6 11 49]) (.seq (.seq (.reg [z3 50 7,z6 51 50,z4 52 2 51,z5 53 1 52,qd 54 53 1,zk 55 54 0,z3 56 55,zF 57 56 5,zE 58 56 0 11,qT 59 56 3 58,⟨some 60,some (56,true),.callv (.tmp 57) [.tmp 59]⟩,zJ 61 56 60,z3 62 61,zP 63 62 7,zY 64 62 63,zI 65 62 2 64,zK 66 62 1 65,⟨some 67,some
 (62,false),.bin .and (.tmp 66) (.const (.int .i64 2))⟩,zx 68 62 67 0,zP 69 62 68,zF 70 69 5,zE 71 69 3 11,qT 72 69 3 71,⟨some 73,some (69,true),.callv (.tmp 70) [.tmp 72]⟩,q9 74 62 69 73,zO 75 62 74]) (.cond (.tmp 75) (.seq (.reg [z3 76 2,zN 77 76 1,z3 2 77]) (.seq (.reg [z5 78 1 1,z6 79 78,z4 80 1 79,z5 81 1 80,za 82 81 1,z6 83 78,z4 84 1 83,z8 1 84 82]) (.seq (.seq (.reg [z3 85 6,z5 86 1 1,
 zM 87 68 86,qA 88 85 87,z3 89 88,zF 90 89 10,zF 91 89 9,qS 92 89 90 91,zJ 93 89 92]) (.cond (.tmp 93) (.reg [z5 94 1 1,z6 95 94,z4 96 7 95,z5 97 1 96,za 98 97 1,z6 99 94,z4 100 7 99,z8 1 100 98]) .skip)) (.exit 3)))) .skip)) (.reg [z3 101 8,zA 102 6 11,qv 103 1 6 0 0 0 0 0 0 0 6 102,qk 104 6 48 0 0 0 0 0 0 101 103,z3 8 104])))) (.reg [zN 105 45 1,z3 45 105]))))))) (.reg [z3 106 7,z3 107 8,z6
 108 106,z4 109 7 108,z8 1 109 107])))))))) (.reg [zN 110 22 1,z3 22 110]))))))) (.seq (.seq (.reg [z5 111 1 1,z6 112 111,z4 113 4 112,z5 114 1 113,zG 115 114,zC 116 0]) (.block 4 (.loop (.seq (.reg [zQ 117 116 115]) (.seq (.cond (.tmp 117) .skip (.exit 4)) (.seq (.block 5 (.seq (.reg [z3 118 116,z3 12 118]) (.seq (.reg [z5 119 1 1,z6 120 119,z4 121 4 120,z5 122 1 121,z3 123 12,z9 124 8 122
 123,z3 13 124]) (.seq (.reg [z3 125 13,z6 126 125,z4 127 0 126,z5 128 1 127,z7 129 128 1,z3 130 129,zD 131 130 1 4,zF 132 130 12,zj 133 130 1 131 132,zD 134 130 1 133,q5 135 130 134,zJ 136 130 135,z3 137 136,zF 138 137 13,zR 139 137 138,zE 140 137 3 139,zD 141 137 1 140,zW 142 137 141 1,zJ 143 137 142]) (.cond (.tmp 143) (.seq (.reg [z3 144 13,z6 145 144,z4 146 3 145,qH 1 146 2]) (.reg [z3 147
 3,zN 148 147 1,z3 3 148])) .skip))))) (.reg [zN 149 116 1,z3 116 149]))))))) (.seq (.reg [z3 150 2,z3 151 3,z3 2 150,z3 3 151]) .ret)))))
theorem t29:Tryz.f29.body.bind (trC e29)=some c29:=by kernel_rfl
theorem r29:Tryz.f29.results.toList.mapM (trR Tryz.prog)=some [.tmp 2,.tmp 3]:=by kernel_rfl
theorem fn29{args:List Value}{M:Mem}{post:Value→Mem→Prop}(hl:args.length≤152)(h:VC e29 c29 (fnQ [.tmp 2,.tmp 3] post) (initS args 152) M):Fn Tryz.prog 29 args M post:=
 Fn.of' (E:=e29) Tryz.func29 t29 rfl r29 mixed hl h
noncomputable def e67:Env:=⟨Tryz.prog,[3],18,[]⟩
noncomputable def c67:C:=
 .seq (.reg [zZ 3 0,zL 4]) (.seq (.reg [z5 6 1 1,zA 7 3 3,zU 8 64 6 7,z3 5 8]) (.seq (.reg [z3 9 5,qb 10 9 0,z3 11 10,zD 12 11 1 2,zF 13 11 5,zj 14 11 1 12 13,zD 15 11 1 14,q5 16 11 15,zJ 17 11 16,z3 4 17]) .ret))
theorem t67:Tryz.f67.body.bind (trC e67)=some c67:=by kernel_rfl
theorem r67:Tryz.f67.results.toList.mapM (trR Tryz.prog)=some [.tmp 4]:=by kernel_rfl
theorem fn67{args:List Value}{M:Mem}{post:Value→Mem→Prop}(hl:args.length≤18)(h:VC e67 c67 (fnQ [.tmp 4] post) (initS args 18) M):Fn Tryz.prog 67 args M post:=
 Fn.of' (E:=e67) Tryz.func67 t67 rfl r67 mixed hl h
noncomputable def e9:Env:=⟨Tryz.prog,[1,2],23,[]⟩
noncomputable def c9:C:=
 .seq (.reg [zZ 1 0,qw 2 0 0 0 0 0 0 0 0 0 0 0 0 0 0 0 0 0 0]) (.seq (.seq (.reg [zA 6 13 1,zM 7 25 6,zV 8 7]) (.cond (.tmp 8) (.seq (.reg [⟨some 9,none,.build [.int .i64 0,.int .i64 0,.int .i64 0,.slice none 0 0,.slice none 0 0,.int .i64 0,.int .i64 0,.int .i64 0,.slice none 0 0,.int .i64 0,.int .i64 0,.int .i64 0,.int .i64 0,.int .i64 0,.int .i64 0] []⟩,z8 15 2 9]) .ret) .skip)) (.seq (.reg [
 zA 10 13 1,zM 11 28 10,z3 3 11]) (.seq (.reg [z3 13 3,zM 14 29 13,z3 12 14,q8 15 12 0,q8 16 12 1,z3 4 15,z3 5 16]) (.seq (.reg [z3 17 3,z6 18 17,zA 19 13 18,z3 20 4,z3 21 5,⟨some 22,none,.build [.int .i64 0,.int .i64 0,.int .i64 0,.slice none 0 0,.slice none 0 0,.int .i64 0,.int .i64 0,.int .i64 0,.slice none 0 0,.int .i64 0,.int .i64 0,.int .i64 0,.int .i64 0,.int .i64 0,.int .i64 0] [(0,13,
 .tmp 19),(13,1,.tmp 20),(14,1,.tmp 21)]⟩,z8 15 2 22]) .ret))))
theorem t9:Tryz.f9.body.bind (trC e9)=some c9:=by kernel_rfl
theorem r9:Tryz.f9.results.toList.mapM (trR Tryz.prog)=some [.cell 2 false 15]:=by kernel_rfl
theorem fn9{args:List Value}{M:Mem}{post:Value→Mem→Prop}(hl:args.length≤23)(h:VC e9 c9 (fnQ [.cell 2 false 15] post) (initS args 23) M):Fn Tryz.prog 9 args M post:=
 Fn.of' (E:=e9) Tryz.func9 t9 rfl r9 mixed hl h
end Go.Proofs.YtcjmodomfilagaaGreat.E
set_option maxHeartbeats 4000000
namespace Go.Proofs.YtcjmodomfilagaaGreat.E
open Go
open Classical
def HX.shade(x:HX)(i:Nat)(y:CS)(e:D):HX:={x with xs:=x.xs.set i (y.s_color 1),gray:=x.gray++[(i:Int)],gd:=e}
end Go.Proofs.YtcjmodomfilagaaGreat.E
