/- A part of the proof. Conditions: none. -/
import Derived.Test.YtpleoapljeffiaaGreatDoorKE13
import Derived.Test.YtpleoapljeffiaaGreatDoorRows
import Derived.Stop.Joined
set_option maxRecDepth 100000
set_option linter.unusedVariables false
namespace Go.Proofs.YtpleoapljeffiaaGreatDoor.E
open Go
noncomputable def e88:Env:=⟨Tryz.prog,[],25,[]⟩
abbrev ze(a0:Nat)(a1:Nat)(a2:Int):I:=⟨some a0,none,.call a1 [.const (.int .i64 a2)]⟩
abbrev zn(a0:Nat)(a1:Nat)(a2:Int):I:=⟨none,none,.store a0 (.tmp a1) (.const (.int .i64 a2))⟩
abbrev zq(a0:Nat)(a1:Int)(a2:Int):I:=⟨some a0,none,.alloc true [.int .i64 a1,.int .i64 a2]⟩
abbrev qf(a0:Nat)(a1:Int)(a2:Int)(a3:Nat)(a4:Nat)(a5:Nat):I:=⟨some a0,none,.build [.int .i64 a1,.int .i64 a2] [(a3,a4,.tmp a5)]⟩
abbrev qw(a0:Nat)(a1:Int)(a2:Int)(a3:Int):I:=⟨some a0,none,.build [.int .i64 a1,.int .i64 a2,.int .i64 a3] []⟩
noncomputable def c88:C:=
 .seq (.reg [zD 2,zD 3]) (.seq (.seq (.reg [z3 4 0]) (.block 0 (.seq (.seq (.reg [zA 6 4 1,z3 5 6]) (.cond (.tmp 5) .skip (.seq (.reg [zA 7 4 2,z3 5 7]) (.cond (.tmp 5) .skip (.seq (.reg [zA 8 4 3,z3 5 8]) (.cond (.tmp 5) .skip (.seq (.reg [zA 9 4 9,z3 5 9]) (.cond (.tmp 5) .skip (.seq (.reg [zA 10 4 10,z3 5 10]) (.cond (.tmp 5) .skip (.seq (.reg [zA 11 4 11,z3 5 11]) (.cond (.tmp 5) .skip
 (.seq (.reg [zA 12 4 12,z3 5 12]) (.cond (.tmp 5) .skip (.seq (.reg [zA 13 4 14,z3 5 13]) (.cond (.tmp 5) .skip (.seq (.reg [zA 14 4 15,z3 5 14]) (.cond (.tmp 5) .skip (.seq (.reg [zA 15 4 16,z3 5 15]) (.cond (.tmp 5) .skip (.seq (.reg [zA 16 4 17,z3 5 16]) (.cond (.tmp 5) .skip (.reg [zA 17 4 19,z3 5 17]))))))))))))))))))))))) (.cond (.tmp 5) (.seq (.reg [zZ 2,zD 3]) .ret) (.seq (.seq
 (.reg [zA 19 4 4,z3 18 19]) (.cond (.tmp 18) .skip (.seq (.reg [zA 20 4 5,z3 18 20]) (.cond (.tmp 18) .skip (.seq (.reg [zA 21 4 6,z3 18 21]) (.cond (.tmp 18) .skip (.seq (.reg [zA 22 4 7,z3 18 22]) (.cond (.tmp 18) .skip (.seq (.reg [zA 23 4 8,z3 18 23]) (.cond (.tmp 18) .skip (.reg [zA 24 4 13,z3 18 24]))))))))))) (.cond (.tmp 18) (.seq (.reg [zZ 2,zZ 3]) .ret) .skip)))))) (.seq (.reg [
 zD 2,zD 3]) .ret))
theorem t88:Tryz.f88.body.bind (trC e88)=some c88:=by kernel_rfl
theorem r88:Tryz.f88.results.toList.mapM (trR Tryz.prog)=some [.tmp 2,.tmp 3]:=by kernel_rfl
theorem fn88{args:List Value}{M:Mem}{post:Value→Mem→Prop}(hl:args.length≤25)(h:VC e88 c88 (fnQ [.tmp 2,.tmp 3] post) (initS args 25) M):Fn Tryz.prog 88 args M post:=
 Fn.of' (E:=e88) Tryz.func88 t88 rfl r88 mixed hl h
noncomputable def e89:Env:=⟨Tryz.prog,[],26,[]⟩
noncomputable def c89:C:=
 .seq (.reg [zC 2 0,zC 3 0]) (.seq (.seq (.reg [z3 4 0]) (.block 0 (.seq (.reg [zA 6 4 1,z3 5 6]) (.cond (.tmp 5) (.seq (.reg [zC 2 255,zC 3 200]) .ret) (.seq (.seq (.reg [zA 8 4 5,z3 7 8]) (.cond (.tmp 7) .skip (.seq (.reg [zA 9 4 6,z3 7 9]) (.cond (.tmp 7) .skip (.seq (.reg [zA 10 4 7,z3 7 10]) (.cond (.tmp 7) .skip (.reg [zA 11 4 8,z3 7 11]))))))) (.cond (.tmp 7) (.seq (.reg [zC 2 15,
 zC 3 199]) .ret) (.seq (.seq (.reg [zA 13 4 4,z3 12 13]) (.cond (.tmp 12) .skip (.reg [zA 14 4 13,z3 12 14]))) (.cond (.tmp 12) (.seq (.reg [zC 2 15,zC 3 0]) .ret) (.seq (.seq (.reg [zA 16 4 9,z3 15 16]) (.cond (.tmp 15) .skip (.reg [zA 17 4 10,z3 15 17]))) (.cond (.tmp 15) (.seq (.reg [zC 2 0,zC 3 200]) .ret) (.seq (.reg [zA 19 4 11,z3 18 19]) (.cond (.tmp 18) (.seq (.reg [zC 2 0,zC 3
 3]) .ret) (.seq (.reg [zA 21 4 12,z3 20 21]) (.cond (.tmp 20) (.seq (.reg [zC 2 0,zC 3 1]) .ret) (.seq (.reg [zA 23 4 22,z3 22 23]) (.cond (.tmp 22) (.seq (.reg [zC 2 0,zC 3 100000]) .ret) (.seq (.reg [zA 25 4 23,z3 24 25]) (.cond (.tmp 24) (.seq (.reg [zC 2 64,zC 3 4000]) .ret) .skip)))))))))))))))))) (.seq (.reg [zC 2 0,zC 3 0]) .ret))
theorem t89:Tryz.f89.body.bind (trC e89)=some c89:=by kernel_rfl
theorem r89:Tryz.f89.results.toList.mapM (trR Tryz.prog)=some [.tmp 2,.tmp 3]:=by kernel_rfl
theorem fn89{args:List Value}{M:Mem}{post:Value→Mem→Prop}(hl:args.length≤26)(h:VC e89 c89 (fnQ [.tmp 2,.tmp 3] post) (initS args 26) M):Fn Tryz.prog 89 args M post:=
 Fn.of' (E:=e89) Tryz.func89 t89 rfl r89 mixed hl h
noncomputable def e53:Env:=⟨Tryz.prog,[1],63,[]⟩
noncomputable def c53:C:=
 .seq (.reg [zT 1 0,zD 2]) (.seq (.seq (.reg [z4 7 0 1,z5 8 1 7,zc 9 8 1,z3 10 9,zO 11 10 0 1,zP 12 10 1 11,qt 13 10 12 24,zR 14 10 13,z3 15 14,zO 16 15 0 1,zP 17 15 1 16,zz 18 15 17 2,zQ 19 15 18,zI 20 19 4 1,zF 21 19 1 20,qC 22 19 21 0,q8 23 15 19 22,zR 24 15 23]) (.cond (.tmp 24) (.seq (.reg [zD 2]) .ret) .skip)) (.seq (.reg [z4 26 0 1,z5 27 1 26,zM 28 88 27,z3 25 28,qE 29 25 0,qE 30 25 1,
 z3 3 29,z3 4 30]) (.seq (.seq (.reg [z3 31 3,z3 32 31,zI 33 32 1 1,zF 34 32 1 33,qL 35 32 24 34 0 15,qA 36 32 35,zK 37 32 36,z3 38 37,zQ 39 38 3,zf 40 38 39,zQ 41 38 40,zI 42 41 1 1,zF 43 41 1 42,qC 44 41 43 0,q8 45 38 41 44,zR 46 38 45]) (.cond (.tmp 46) (.seq (.reg [zD 2]) .ret) .skip)) (.seq (.reg [z4 48 0 1,z5 49 1 48,zM 50 89 49,z3 47 50,qE 51 47 0,qE 52 47 1,z3 5 51,z3 6 52]) (.seq (.reg
 [z4 53 2 1,z5 54 1 53,z3 55 5,qu 56 24 54 0 55,z3 57 56,zI 58 57 3 1,zF 59 57 1 58,zJ 60 57 6,qp 61 57 24 59 0 60,zK 62 57 61,z3 2 62]) .ret)))))
theorem t53:Tryz.f53.body.bind (trC e53)=some c53:=by kernel_rfl
theorem r53:Tryz.f53.results.toList.mapM (trR Tryz.prog)=some [.tmp 2]:=by kernel_rfl
theorem fn53{args:List Value}{M:Mem}{post:Value→Mem→Prop}(hl:args.length≤63)(h:VC e53 c53 (fnQ [.tmp 2] post) (initS args 63) M):Fn Tryz.prog 53 args M post:=
 Fn.of' (E:=e53) Tryz.func53 t53 rfl r53 mixed hl h
noncomputable def e58:Env:=⟨Tryz.prog,[2],5,[]⟩
noncomputable def c58:C:=
 .seq (.reg [zq 2 0 0]) (.seq (.reg [z3 3 0,qf 4 0 0 1 1 3,z7 2 2 4]) .ret)
theorem t58:Tryz.f58.body.bind (trC e58)=some c58:=by kernel_rfl
theorem r58:Tryz.f58.results.toList.mapM (trR Tryz.prog)=some [.cell 2 false 2]:=by kernel_rfl
theorem fn58{args:List Value}{M:Mem}{post:Value→Mem→Prop}(hl:args.length≤5)(h:VC e58 c58 (fnQ [.cell 2 false 2] post) (initS args 5) M):Fn Tryz.prog 58 args M post:=
 Fn.of' (E:=e58) Tryz.func58 t58 rfl r58 mixed hl h
noncomputable def e54:Env:=⟨Tryz.prog,[2],5,[]⟩
noncomputable def c54:C:=
 .seq (.reg [zq 2 0 0]) (.seq (.reg [z3 3 0,qf 4 0 0 0 1 3,z7 2 2 4]) .ret)
theorem t54:Tryz.f54.body.bind (trC e54)=some c54:=by kernel_rfl
theorem r54:Tryz.f54.results.toList.mapM (trR Tryz.prog)=some [.cell 2 false 2]:=by kernel_rfl
theorem fn54{args:List Value}{M:Mem}{post:Value→Mem→Prop}(hl:args.length≤5)(h:VC e54 c54 (fnQ [.cell 2 false 2] post) (initS args 5) M):Fn Tryz.prog 54 args M post:=
 Fn.of' (E:=e54) Tryz.func54 t54 rfl r54 mixed hl h
noncomputable def e90:Env:=⟨Tryz.prog,[],41,[(1,11),(6,11)]⟩
noncomputable def c90:C:=
 .seq (.reg [zD 4]) (.seq (.seq (.dreg 11 [z3 5 0,z6 6 5,z4 7 1 6,z5 8 1 7,z3 9 1,q4 10 8 9,z3 11 0,z6 12 11,z4 13 0 12,z5 14 1 13,qJ 15 10 14]) (.cond (.tmp 15) (.seq (.reg [zZ 4]) .ret) .skip)) (.seq (.seq (.reg [z3 16 0,z6 17 16,z4 18 12 17,z5 19 1 18,zc 20 19 1000000000]) (.cond (.tmp 20) (.reg [z3 21 0,z6 22 21,z4 23 12 22,z5 24 1 23,zG 25 24 1,z6 26 21,z4 27 12 26,z7 1 27 25]) .skip))
 (.seq (.reg [z3 28 0,zM 29 65 28]) (.seq (.dreg 11 [z3 30 0,z6 31 30,z4 32 1 31,z5 33 1 32,z3 34 1,q4 35 33 34,z3 36 0,z6 37 36,z4 38 0 37,z5 39 1 38,qJ 40 35 39,z3 4 40]) .ret))))
theorem t90:Tryz.f90.body.bind (trC e90)=some c90:=by kernel_rfl
theorem r90:Tryz.f90.results.toList.mapM (trR Tryz.prog)=some [.tmp 4]:=by kernel_rfl
theorem fn90{args:List Value}{M:Mem}{post:Value→Mem→Prop}(hl:args.length≤41)(h:VC e90 c90 (fnQ [.tmp 4] post) (initS args 41) M):Fn Tryz.prog 90 args M post:=
 Fn.of' (E:=e90) Tryz.func90 t90 rfl r90 mixed hl h
noncomputable def e93:Env:=⟨Tryz.prog,[],37,[(2,9)]⟩
noncomputable def c93:C:=
 .seq (.seq (.reg [z3 4 0,z6 5 4,z4 6 9 5,z5 7 1 6,zA 8 7 0,z3 9 8,zQ 10 9 1,zt 11 9 10 0,zR 12 9 11]) (.cond (.tmp 12) .ret .skip)) (.seq (.seq (.reg [z3 13 0,z6 14 13,z4 15 5 14,z5 16 1 15,zA 17 16 0]) (.cond (.tmp 17) (.seq (.seq (.dreg 9 [z3 18 0,z6 19 18,z4 20 1 19,z5 21 1 20,z3 22 0,z6 23 22,z4 24 10 23,z5 25 1 24,qJ 26 21 25]) (.cond (.tmp 26) .ret .skip)) (.reg [z3 27 0,zM 28 103 27]))
 .skip)) (.reg [z3 29 0,z3 30 0,z6 31 30,z4 32 9 31,z5 33 1 32,z3 34 1,⟨some 35,none,.bin .mul (.tmp 33) (.tmp 34)⟩,zL 36 64 29 35]))
theorem t93:Tryz.f93.body.bind (trC e93)=some c93:=by kernel_rfl
theorem r93:Tryz.f93.results.toList.mapM (trR Tryz.prog)=some []:=by kernel_rfl
theorem fn93{args:List Value}{M:Mem}{post:Value→Mem→Prop}(hl:args.length≤37)(h:VC e93 c93 (fnQ [] post) (initS args 37) M):Fn Tryz.prog 93 args M post:=
 Fn.of' (E:=e93) Tryz.func93 t93 rfl r93 mixed hl h
noncomputable def e97:Env:=⟨Tryz.prog,[],30,[]⟩
noncomputable def c97:C:=
 .block 0 (.loop (.seq (.seq (.reg [z3 6 0,z6 7 6,z4 8 4 7,z5 9 1 8,z3 10 1,z8 11 8 9 10,z4 12 7 11,z5 13 1 12,zE 14 13,z3 15 2,⟨some 16,none,.bin .gtr (.tmp 14) (.tmp 15)⟩]) (.cond (.tmp 16) .skip (.exit 0))) (.block 1 (.reg [z3 17 0,z3 18 1,z3 19 0,z6 20 19,z4 21 4 20,z5 22 1 21,z3 23 1,z8 24 8 22 23,z4 25 7 24,z5 26 1 25,zE 27 26,zi 28 27 1,qI 29 99 17 18 28]))))
theorem t97:Tryz.f97.body.bind (trC e97)=some c97:=by kernel_rfl
theorem r97:Tryz.f97.results.toList.mapM (trR Tryz.prog)=some []:=by kernel_rfl
theorem fn97{args:List Value}{M:Mem}{post:Value→Mem→Prop}(hl:args.length≤30)(h:VC e97 c97 (fnQ [] post) (initS args 30) M):Fn Tryz.prog 97 args M post:=
 Fn.of' (E:=e97) Tryz.func97 t97 rfl r97 mixed hl h
noncomputable def e60:Env:=⟨Tryz.prog,[4],34,[]⟩
noncomputable def c60:C:=
 .seq (.reg [zq 4 0 0]) (.seq (.reg [z3 6 0,zM 7 100 6,z3 5 7]) (.seq (.seq (.reg [z3 8 5,zc 9 8 0]) (.cond (.tmp 9) (.seq (.reg [z3 10 0,z6 11 10,z4 12 3 11,z5 13 1 12,z3 14 1,qw 15 0 0 0,z8 16 3 13 14,z7 3 16 15]) (.seq (.reg [ze 17 58 0,z7 2 4 17]) .ret)) .skip)) (.seq (.reg [z3 18 0,z6 19 18,z4 20 4 19,z5 21 1 20,z3 22 5,z8 23 8 21 22,z4 24 3 23,zn 1 24 3]) (.seq (.reg [z3 25 0,z6 26 25,
 z4 27 3 26,z5 28 1 27,z3 29 1,z3 30 5,q7 31 0 0 0 0 1 2 2 1 30,z8 32 3 28 29,z7 3 32 31]) (.seq (.reg [ze 33 58 1,z7 2 4 33]) .ret)))))
theorem t60:Tryz.f60.body.bind (trC e60)=some c60:=by kernel_rfl
theorem r60:Tryz.f60.results.toList.mapM (trR Tryz.prog)=some [.cell 4 false 2]:=by kernel_rfl
theorem fn60{args:List Value}{M:Mem}{post:Value→Mem→Prop}(hl:args.length≤34)(h:VC e60 c60 (fnQ [.cell 4 false 2] post) (initS args 34) M):Fn Tryz.prog 60 args M post:=
 Fn.of' (E:=e60) Tryz.func60 t60 rfl r60 mixed hl h
noncomputable def e56:Env:=⟨Tryz.prog,[3,4,7],136,[(7,12),(9,13),(11,9),(13,11),(16,11),(19,9),(20,12),(21,9)]⟩
noncomputable def c56:C:=
 .seq (.reg [zT 3 1,zq 4 0 0]) (.seq (.reg [z4 8 1 3,z5 9 1 8,z3 5 9]) (.seq (.seq (.reg [z4 10 0 3,z5 11 1 10,zA 12 11 5,z3 13 12,zO 14 13 0 3,zP 15 13 1 14,zt 16 13 15 6,zR 17 13 16]) (.cond (.tmp 17) (.reg [z4 18 2 3,z5 19 1 18,z3 5 19]) .skip)) (.seq (.seq (.reg [z3 20 0,z6 21 20,z4 22 3 21,z5 23 1 22,z3 24 5,z8 25 3 23 24,z4 26 0 25,z5 27 1 26,zo 28 27 2]) (.cond (.tmp 28) (.seq (.reg [
 ze 29 54 2,z7 2 4 29]) .ret) .skip)) (.seq (.reg [z3 30 0,z6 31 30,z4 32 3 31,z5 33 1 32,z3 34 5,z8 35 3 33 34,z4 36 2 35,z5 37 1 36,z3 6 37]) (.seq (.seq (.dreg 12 [z4 38 3 3,z5 39 1 38,z3 40 0,z6 41 40,z4 42 4 41,z5 43 1 42,z3 44 6,z8 45 8 43 44,z4 46 7 45,z5 47 1 46,zE 48 47,qX 49 39 48]) (.cond (.tmp 49) (.seq (.reg [ze 50 54 3,z7 2 4 50]) .ret) .skip)) (.seq (.dreg 13 [z3 51 0,z6 52 51,
 z4 53 4 52,z5 54 1 53,z3 55 6,z8 56 8 54 55,z4 57 7 56,z5 58 1 57,z4 59 3 3,z5 60 1 59,z8 61 6 58 60,z9 62 6 61,zp 7 0 0 0 0 0 0,z7 6 7 62]) (.seq (.seq (.reg [z4 63 0 3,z5 64 1 63]) (.block 0 (.seq (.reg [zA 75 64 5,z3 74 75]) (.cond (.tmp 74) (.seq (.dreg 11 [z3 76 0,z6 77 76,z4 78 3 77,z5 79 1 78,z4 80 1 3,z5 81 1 80,z3 82 0,z4 83 0 7,z9 84 3 83,q6 85 94 82 84,z8 86 3 79 81,z7 3 86 85])
 (.seq (.reg [ze 87 58 0,z7 2 4 87]) .ret)) (.seq (.reg [zA 89 64 6,z3 88 89]) (.cond (.tmp 88) (.seq (.dreg 11 [z3 90 0,z6 91 90,z4 92 3 91,z5 93 1 92,z4 94 1 3,z5 95 1 94,z3 96 0,z4 97 3 7,z9 98 3 97,q6 99 94 96 98,z8 100 3 93 95,z7 3 100 99]) (.seq (.reg [ze 101 58 0,z7 2 4 101]) .ret)) (.seq (.reg [zA 103 64 7,z3 102 103]) (.cond (.tmp 102) (.dreg 9 [z3 104 0,z6 105 104,z4 106 3 105,z5
 107 1 106,z4 108 2 3,z5 109 1 108,z8 110 3 107 109,z9 111 3 110,z4 112 0 7,z7 3 112 111]) (.dreg 9 [z3 65 0,z6 66 65,z4 67 3 66,z5 68 1 67,z4 69 2 3,z5 70 1 69,z8 71 3 68 70,z9 72 3 71,z4 73 3 7,z7 3 73 72]))))))))) (.seq (.dreg 12 [z3 113 0,z6 114 113,z4 115 4 114,z5 116 1 115,z3 117 6,z8 118 8 116 117,z4 119 7 118,z5 120 1 119,z4 121 3 3,z5 122 1 121,z9 123 6 7,z8 124 6 120 122,z7 6 124 123])
 (.seq (.dreg 9 [z3 125 0,z3 126 0,z6 127 126,z4 128 3 127,z5 129 1 128,z4 130 2 3,z5 131 1 130,z8 132 3 129 131,z9 133 3 132,zL 134 95 125 133]) (.seq (.reg [ze 135 58 0,z7 2 4 135]) .ret))))))))))
theorem t56:Tryz.f56.body.bind (trC e56)=some c56:=by kernel_rfl
theorem r56:Tryz.f56.results.toList.mapM (trR Tryz.prog)=some [.cell 4 false 2]:=by kernel_rfl
theorem fn56{args:List Value}{M:Mem}{post:Value→Mem→Prop}(hl:args.length≤136)(h:VC e56 c56 (fnQ [.cell 4 false 2] post) (initS args 136) M):Fn Tryz.prog 56 args M post:=
 Fn.of' (E:=e56) Tryz.func56 t56 rfl r56 mixed hl h
noncomputable def e57:Env:=⟨Tryz.prog,[3,4,5],89,[(1,9),(10,10),(12,10),(16,10),(18,11)]⟩
noncomputable def c57:C:=
 .seq (.reg [zT 3 1,zq 4 0 0]) (.seq (.dreg 9 [z3 6 0,z6 7 6,z4 8 3 7,z5 9 1 8,z4 10 1 3,z5 11 1 10,z8 12 3 9 11,z9 13 3 12,zk 5 0 0 0,z7 3 5 13]) (.seq (.seq (.reg [z4 14 0 5,z5 15 1 14,zo 16 15 2]) (.cond (.tmp 16) (.seq (.reg [ze 17 54 2,z7 2 4 17]) .ret) .skip)) (.seq (.seq (.reg [z4 18 0 3,z5 19 1 18]) (.block 0 (.seq (.reg [zA 21 19 9,z3 20 21]) (.cond (.tmp 20) (.seq (.reg [z3 22 0,
 z9 23 5 3,zL 24 96 22 23,z7 2 4 24]) .ret) (.seq (.reg [zA 26 19 10,z3 25 26]) (.cond (.tmp 25) (.reg [z3 27 0,z4 28 2 5,z5 29 1 28,z4 30 3 3,z5 31 1 30,qI 32 97 27 29 31]) (.seq (.reg [zA 34 19 11,z3 33 34]) (.cond (.tmp 33) (.dreg 10 [z3 35 0,z6 36 35,z4 37 4 36,z5 38 1 37,z4 39 2 5,z5 40 1 39,z4 41 3 3,z5 42 1 41,z8 43 8 38 40,z4 44 2 43,z7 1 44 42]) (.seq (.reg [zA 46 19 12,z3 45 46])
 (.cond (.tmp 45) (.seq (.dreg 10 [z3 47 0,z6 48 47,z4 49 4 48,z5 50 1 49,z4 51 2 5,z5 52 1 51,z4 53 3 3,z5 54 1 53,z8 55 8 50 52,z4 56 3 55,z7 1 56 54]) (.seq (.reg [z4 57 3 3,z5 58 1 57,zA 59 58 1]) (.cond (.tmp 59) (.reg [z3 60 0,z9 61 3 5,zL 62 95 60 61]) .skip))) (.seq (.reg [zA 64 19 16,z3 63 64]) (.cond (.tmp 63) (.seq (.dreg 10 [z3 65 0,z6 66 65,z4 67 4 66,z5 68 1 67,z4 69 2 5,z5 70 1
 69,z8 71 8 68 70,z4 72 1 71,z5 73 1 72,qH 74 58 73,z7 2 4 74]) .ret) (.seq (.reg [zA 76 19 17,z3 75 76]) (.cond (.tmp 75) (.seq (.dreg 11 [z3 77 0,z6 78 77,z4 79 4 78,z5 80 1 79,z4 81 2 5,z5 82 1 81,z8 83 8 80 82,z4 84 7 83,z5 85 1 84,zE 86 85,qH 87 58 86,z7 2 4 87]) .ret) .skip)))))))))))))) (.seq (.reg [ze 88 58 0,z7 2 4 88]) .ret))))
theorem t57:Tryz.f57.body.bind (trC e57)=some c57:=by kernel_rfl
theorem r57:Tryz.f57.results.toList.mapM (trR Tryz.prog)=some [.cell 4 false 2]:=by kernel_rfl
theorem fn57{args:List Value}{M:Mem}{post:Value→Mem→Prop}(hl:args.length≤89)(h:VC e57 c57 (fnQ [.cell 4 false 2] post) (initS args 89) M):Fn Tryz.prog 57 args M post:=
 Fn.of' (E:=e57) Tryz.func57 t57 rfl r57 mixed hl h
noncomputable def e26:Env:=⟨Tryz.prog,[3,4],180,[(7,10),(9,8),(11,15),(25,17),(28,10),(30,10),(32,10)]⟩
noncomputable def c26:C:=
 .seq (.reg [zT 3 1,zq 4 0 0]) (.seq (.seq (.reg [z9 7 5 3,zM 8 53 7,zV 9 8]) (.cond (.tmp 9) (.seq (.reg [ze 10 54 1,z7 2 4 10]) .ret) .skip)) (.seq (.seq (.reg [z4 11 0 3,z5 12 1 11]) (.block 0 (.seq (.reg [zA 14 12 1,z3 13 14]) (.cond (.tmp 13) (.seq (.reg [z3 15 0,z9 16 5 3,zL 17 55 15 16,z7 2 4 17]) .ret) (.seq (.reg [zA 19 12 2,z3 18 19]) (.cond (.tmp 18) (.dreg 10 [z3 20 0,z6 21 20,
 z4 22 3 21,z5 23 1 22,z4 24 1 3,z5 25 1 24,z4 26 4 3,z5 27 1 26,q7 28 0 0 0 0 1 1 1 1 27,z8 29 3 23 25,z7 3 29 28]) (.seq (.reg [zA 31 12 3,z3 30 31]) (.cond (.tmp 30) (.dreg 8 [z3 32 0,z6 33 32,z4 34 3 33,z5 35 1 34,z4 36 1 3,z5 37 1 36,qw 38 0 0 0,z8 39 3 35 37,z7 3 39 38]) (.seq (.reg [zA 41 12 4,z3 40 41]) (.cond (.tmp 40) (.dreg 15 [z3 42 0,z6 43 42,z4 44 3 43,z5 45 1 44,z4 46 1 3,z5 47
 1 46,z3 48 0,z6 49 48,z4 50 3 49,z5 51 1 50,z4 52 2 3,z5 53 1 52,z8 54 3 51 53,z9 55 3 54,z8 56 3 45 47,z7 3 56 55]) (.seq (.seq (.reg [zA 58 12 5,z3 57 58]) (.cond (.tmp 57) .skip (.seq (.reg [zA 59 12 6,z3 57 59]) (.cond (.tmp 57) .skip (.seq (.reg [zA 60 12 7,z3 57 60]) (.cond (.tmp 57) .skip (.reg [zA 61 12 8,z3 57 61]))))))) (.cond (.tmp 57) (.seq (.reg [z3 62 0,z9 63 5 3,zL 64 56 62 63,
 z7 2 4 64]) .ret) (.seq (.seq (.reg [zA 66 12 9,z3 65 66]) (.cond (.tmp 65) .skip (.seq (.reg [zA 67 12 10,z3 65 67]) (.cond (.tmp 65) .skip (.seq (.reg [zA 68 12 11,z3 65 68]) (.cond (.tmp 65) .skip (.seq (.reg [zA 69 12 12,z3 65 69]) (.cond (.tmp 65) .skip (.seq (.reg [zA 70 12 16,z3 65 70]) (.cond (.tmp 65) .skip (.reg [zA 71 12 17,z3 65 71]))))))))))) (.cond (.tmp 65) (.seq (.reg [z3
 72 0,z9 73 5 3,zL 74 57 72 73,z7 2 4 74]) .ret) (.seq (.reg [zA 76 12 13,z3 75 76]) (.cond (.tmp 75) (.seq (.dreg 17 [z3 77 0,z6 78 77,z4 79 3 78,z5 80 1 79,z4 81 1 3,z5 82 1 81,z8 83 3 80 82,z9 84 3 83,z3 85 0,z6 86 85,z4 87 3 86,z5 88 1 87,z4 89 2 3,z5 90 1 89,z8 91 3 88 90,z9 92 3 91,⟨some 93,none,.eqA false 3 (.tmp 84) (.tmp 92)⟩]) (.cond (.tmp 93) (.seq (.reg [ze 94 58 1,z7 2 4 94]) .ret)
 .skip)) (.seq (.reg [zA 96 12 14,z3 95 96]) (.cond (.tmp 95) (.seq (.dreg 10 [z3 97 0,z6 98 97,z4 99 3 98,z5 100 1 99,z4 101 1 3,z5 102 1 101,z8 103 3 100 102,z4 104 0 103,z5 105 1 104,qH 106 58 105,z7 2 4 106]) .ret) (.seq (.reg [zA 108 12 15,z3 107 108]) (.cond (.tmp 107) (.seq (.seq (.dreg 10 [z3 109 0,z6 110 109,z4 111 3 110,z5 112 1 111,z4 113 1 3,z5 114 1 113,z8 115 3 112 114,z4 116 0
 115,z5 117 1 116,zo 118 117 1]) (.cond (.tmp 118) (.seq (.reg [ze 119 54 2,z7 2 4 119]) .ret) .skip)) (.seq (.dreg 10 [z3 120 0,z6 121 120,z4 122 3 121,z5 123 1 122,z4 124 1 3,z5 125 1 124,z8 126 3 123 125,z4 127 1 126,z5 128 1 127,qf 129 0 0 1 1 128,z7 2 4 129]) .ret)) (.seq (.reg [zA 131 12 18,z3 130 131]) (.cond (.tmp 130) (.seq (.reg [z3 133 0,zM 134 59 133,z3 132 134,qE 135 132 0,qE 136
 132 1,z3 5 135,z3 6 136]) (.seq (.reg [z3 137 6,zM 138 58 137,z7 2 4 138]) .ret)) (.seq (.reg [zA 140 12 19,z3 139 140]) (.cond (.tmp 139) (.seq (.reg [z3 141 0,z4 142 1 3,z5 143 1 142,zL 144 60 141 143,z7 2 4 144]) .ret) (.seq (.reg [zA 146 12 20,z3 145 146]) (.cond (.tmp 145) (.seq (.reg [z3 147 0,z3 148 0,zM 149 62 148,zL 150 61 147 149,zM 151 58 150,z7 2 4 151]) .ret) (.seq (.reg [zA
 153 12 21,z3 152 153]) (.cond (.tmp 152) (.seq (.reg [z3 154 0,zM 155 63 154,zM 156 58 155,z7 2 4 156]) .ret) (.seq (.reg [zA 158 12 22,z3 157 158]) (.cond (.tmp 157) (.reg [z3 159 0,z4 160 3 3,z5 161 1 160,zL 162 64 159 161]) (.seq (.reg [zA 164 12 23,z3 163 164]) (.cond (.tmp 163) (.seq (.reg [z3 165 0,z4 166 2 3,z5 167 1 166,z6 168 165,z4 169 9 168,z7 1 169 167]) (.reg [z3 170 0,z4 171 3
 3,z5 172 1 171,z6 173 170,z4 174 10 173,z7 1 174 172])) (.seq (.reg [zA 176 12 24,z3 175 176]) (.cond (.tmp 175) (.reg [z3 177 0,zM 178 65 177]) .skip)))))))))))))))))))))))))))))))))) (.seq (.reg [ze 179 58 0,z7 2 4 179]) .ret)))
theorem t26:Tryz.f26.body.bind (trC e26)=some c26:=by kernel_rfl
theorem r26:Tryz.f26.results.toList.mapM (trR Tryz.prog)=some [.cell 4 false 2]:=by kernel_rfl
theorem fn26{args:List Value}{M:Mem}{post:Value→Mem→Prop}(hl:args.length≤180)(h:VC e26 c26 (fnQ [.cell 4 false 2] post) (initS args 180) M):Fn Tryz.prog 26 args M post:=
 Fn.of' (E:=e26) Tryz.func26 t26 rfl r26 mixed hl h
end Go.Proofs.YtpleoapljeffiaaGreatDoor.E
set_option linter.unusedSimpArgs false
set_option maxHeartbeats 8000000
namespace Go.Proofs.YtpleoapljeffiaaGreatDoor.E
open Go
open Classical
def an(c n:Int):Value:=.agg #[.int .i64 c,.int .i64 n]
def actV(a:Act):Value:=.agg (av a).toArray
theorem l5fine_q{m:Mem}{n:Int}:Qt Tryz.prog 58 [.int .i64 n] m (an 0 n):=by
 refine qt_of (fnA_of (fun h=>fn58 (by simp) h) ?_)
 repeat' (first|refine xx ?_|fail)
 exact fa_q (by simp) (fun _ _=>rfl) rfl
theorem l5bad_q{m:Mem}{n:Int}:Qt Tryz.prog 54 [.int .i64 n] m (an n 0):=by
 refine qt_of (fnA_of (fun h=>fn54 (by simp) h) ?_)
 repeat' (first|refine xx ?_|fail)
 exact fa_q (by simp) (fun _ _=>rfl) rfl
def rA(op:Int):Bool:=decide (op=1∨op=2∨op=3∨op=9∨op=10∨op=11∨op=12∨op=14∨op=15∨op=16∨op=17∨op=19)||rB op
where rB (op:Int):Bool:=decide (op=4∨op=5∨op=6∨op=7∨op=8∨op=13)
theorem l5reg_q{m:Mem}{op:Int}:Qt Tryz.prog 88 [.int .i64 op] m (.tuple #[.bool (rA op),.bool (rA.rB op)]):=by
 refine qt_of (fnA_of (fun h=>fn88 (by simp) h) ?_)
 repeat' (first|refine xx ?_|(refine xy ?_ ?_<;>intro hb<;>try(exfalso;omega))|fail)
 all_goals exact fa_q (by simp) (fun _ _=>rfl) (by unfold rA rA.rB;simp_all<;>omega)
theorem l5most_q{m:Mem}{op:Int}:Qt Tryz.prog 89 [.int .i64 op] m (.tuple #[.int .i64 (bMost op),.int .i64 (cMost op)]):=by
 refine qt_of (fnA_of (fun h=>fn89 (by simp) h) ?_)
 repeat' (first|refine xx ?_|(refine xy ?_ ?_<;>intro hb<;>try(exfalso;omega))|fail)
 all_goals exact fa_q (by simp) (fun _ _=>rfl) (by unfold bMost cMost;simp_all<;>omega)
theorem rA_most(op:Int)(h:1≤op∧op≤24):aMost op=if rA op=true then 15 else 0:=by
 unfold aMost rA rA.rB
 by_cases e:op=18∨20≤op
 ·rw[if_pos e,if_neg]
  simp only[Bool.or_eq_true,decide_eq_true_eq]
  omega
 ·rw[if_neg e,if_pos]
  simp only[Bool.or_eq_true,decide_eq_true_eq]
  omega
theorem specActOk_q{m:Mem}{a:Act}:Qt Tryz.prog 53 [actV a] m (.bool (decide (ActP a))):=by
 refine qt_of (fnA_of (fun h=>fn53 (by simp) h) ?_)
 have hm:=rA_most a.op
 cases hr:rA a.op with
 |true=>
  rw[hr,if_pos rfl]at hm
  repeat' (first|refine xx ?_|(refine xy ?_ ?_<;>intro hb<;>try(exfalso;omega))|(refine k_L ?_;(refine k_c ?_;first|refine a_cq rfl (fun m hm=>qt_e l5reg_q (by rw[hr])) ?_|refine a_cq rfl (fun m hm=>spec.l1inQ) ?_|refine a_cq rfl (fun m hm=>l5most_q) ?_))|fail)
  all_goals first
   |exact q_F (fun h=>by unfold ActP at h;omega)
   |exact q_B (fun _ _=>rfl) (by unfold ActP;rw[decide_eq_true_eq];omega)
 |false=>
  rw[hr,if_neg (by simp)]at hm
  repeat' (first|refine xx ?_|(refine xy ?_ ?_<;>intro hb<;>try(exfalso;omega))|(refine k_L ?_;(refine k_c ?_;first|refine a_cq rfl (fun m hm=>qt_e l5reg_q (by rw[hr])) ?_|refine a_cq rfl (fun m hm=>spec.l1inQ) ?_|refine a_cq rfl (fun m hm=>l5most_q) ?_))|fail)
  all_goals first
   |exact q_F (fun h=>by unfold ActP at h;omega)
   |exact q_B (fun _ _=>rfl) (by unfold ActP;rw[decide_eq_true_eq];omega)
end Go.Proofs.YtpleoapljeffiaaGreatDoor.E
namespace Go.Proofs.YtpleoapljeffiaaGreatDoor.E
open Go
noncomputable def e82:Env:=⟨Tryz.prog,[1,3],44,[]⟩
noncomputable def c82:C:=
 .seq (.reg [zT 1 0,zD 2]) (.seq (.seq (.reg [z4 4 0 1,z5 5 1 4,qG 6 66 5 1 24,zV 7 6]) (.cond (.tmp 7) (.seq (.reg [zD 2]) .ret) .skip)) (.seq (.reg [⟨some 8,none,.load true 1 (.global 0)⟩,z4 9 0 1,z5 10 1 9,z8 11 5 8 10,z9 12 5 11,⟨some 3,none,.alloc true [.string ⟨#[]⟩,.int .i64 0,.int .i64 0,.int .i64 0,.bool false]⟩,z7 5 3 12]) (.seq (.reg [z4 13 1 1,z5 14 1 13,z4 15 1 3,z5 16 1 15,⟨some
 17,none,.max (.tmp 16) (.const (.int .i64 0))⟩,qu 18 66 14 0 17,z3 19 18,zI 20 19 2 1,zF 21 19 1 20,zI 22 19 2 3,zF 23 19 1 22,⟨some 24,some (19,true),.max (.tmp 23) (.const (.int .i64 0))⟩,qp 25 19 66 21 0 24,zK 26 19 25,z3 27 26,zI 28 27 3 1,zF 29 27 1 28,zI 30 27 3 3,zF 31 27 1 30,⟨some 32,some (27,true),.max (.tmp 31) (.const (.int .i64 0))⟩,qp 33 27 66 29 0 32,zK 34 27 33,z3 35 34,zI 36 35 4
 3,zF 37 35 1 36,zJ 38 35 37,zO 39 38 4 1,zP 40 38 1 39,zt 41 38 40 0,qD 42 35 38 41,zK 43 35 42,z3 2 43]) .ret)))
theorem t82:Tryz.f82.body.bind (trC e82)=some c82:=by kernel_rfl
theorem r82:Tryz.f82.results.toList.mapM (trR Tryz.prog)=some [.tmp 2]:=by kernel_rfl
theorem fn82{args:List Value}{M:Mem}{post:Value→Mem→Prop}(hl:args.length≤44)(h:VC e82 c82 (fnQ [.tmp 2] post) (initS args 44) M):Fn Tryz.prog 82 args M post:=
 Fn.of' (E:=e82) Tryz.func82 t82 rfl r82 mixed hl h
end Go.Proofs.YtpleoapljeffiaaGreatDoor.E
namespace Go.Proofs.YtpleoapljeffiaaGreatDoor.E
open Go
open Classical
def formsL:List Form:=[⟨⟨#[]⟩,0,0,0,false⟩,⟨⟨#[110,101,119]⟩,15,255,200,false⟩,⟨⟨#[110,117,109]⟩,15,-1,-1,true⟩,⟨⟨#[110,105,108]⟩,15,-1,-1,false⟩,⟨⟨#[99,111,112,121]⟩,15,15,-1,false⟩,⟨⟨#[107,101,121]⟩,15,15,199,false⟩,⟨⟨#[118,97,108]⟩,15,15,199,false⟩,⟨⟨#[115,101,116,107,101,121]⟩,15,15,199,false⟩,⟨⟨#[115,101,116,118,97,108]⟩,15,15,199,false⟩,⟨⟨#[103,114,111,119]⟩,15,-1,200,false⟩,⟨⟨#[99,117,116]⟩,15,-1,200,false⟩,⟨⟨#[119,101,97,107]⟩,15,-1,3,false⟩,⟨⟨#[108,97,115,116]⟩,15,-1,1,false⟩,⟨⟨#[115,97,109,101]⟩,15,15,-1,false⟩,⟨⟨#[119,111,114,100]⟩,15,-1,-1,false⟩,⟨⟨#[110,117,109,98,101,114]⟩,15,-1,-1,false⟩,⟨⟨#[107,105,110,100]⟩,15,-1,-1,false⟩,⟨⟨#[115,105,122,101]⟩,15,-1,-1,false⟩,⟨⟨#[115,101,116,116,108,101]⟩,-1,-1,-1,false⟩,⟨⟨#[100,117,101]⟩,15,-1,-1,false⟩,⟨⟨#[99,111,117,110,116]⟩,-1,-1,-1,false⟩,⟨⟨#[108,105,118,101]⟩,-1,-1,-1,false⟩,⟨⟨#[115,116,101,112]⟩,-1,-1,100000,false⟩,⟨⟨#[112,97,99,101]⟩,-1,64,4000,false⟩,⟨⟨#[114,111,117,110,100]⟩,-1,-1,-1,false⟩]
structure Frm (m:Mem):Prop where
 out:∃b o cap,cell m 0 0=some (.slice (some ⟨b,o,none⟩) 25 cap)∧∀(i:Nat) F,formsL[i]?=some F→cells m b (o+i*5) 5=some (fmV F)
theorem Frm.le{m m':Mem}(h:Frm m)(l:m.le m'):Frm m':=by
 obtain⟨b,o,cap,h1,h2⟩:=h.out
 exact⟨b,o,cap,cell_le l h1,fun i F hF=>cells_le l (h2 i F hF)⟩
theorem rd_gl{m:Mem}{b o:Nat}{v:Value}(h:cell m b o=some v):RdA (ro m) b o v:=⟨fun m' hm=>by
 have hm:m'=m:=hm
 subst hm;exact h⟩
theorem rs_cods{m:Mem}{b o n:Nat}{vs:List Value}(h:cells m b o n=some vs):RsA (ro m) b o n vs:=⟨fun m' hm=>by
 have hm:m'=m:=hm
 subst hm;exact h⟩
theorem form_ok{op:Int}(h:1≤op∧op≤24):∃F,formsL[op.toNat]?=some F∧aMost op=(if F.a<0 then 0 else F.a)∧bMost op=(if F.b<0 then 0 else F.b)∧cMost op=(if F.c<0 then 0 else F.c)∧(F.n=true↔op=2):=by
 have e:op=1∨op=2∨op=3∨op=4∨op=5∨op=6∨op=7∨op=8∨op=9∨op=10∨op=11∨op=12∨op=13∨op=14∨op=15∨op=16∨op=17∨op=18∨op=19∨op=20∨op=21∨op=22∨op=23∨op=24:=by omega
 rcases e with rfl|rfl|rfl|rfl|rfl|rfl|rfl|rfl|rfl|rfl|rfl|rfl|rfl|rfl|rfl|rfl|rfl|rfl|rfl|rfl|rfl|rfl|rfl|rfl<;>
  exact⟨_,rfl,by simp[aMost],by simp[bMost],by simp[cMost],by simp⟩
theorem implActOk_q{m:Mem}{a:Act}(hf:Frm m):Qt Tryz.prog 82 [actV a] m (.bool (decide (ActP a))):=by
 refine qt_of (fnA_of (fun h=>fn82 (by simp) h) ?_)
 obtain⟨b,o,cap,h1,h2⟩:=hf.out
 by_cases hop:1≤a.op∧a.op≤24
 ·obtain⟨⟨nm,ra,rb,rc,rn⟩,hF,fa,fb,fc,fn⟩:=form_ok hop
  have h3:=h2 _ _ hF
  dsimp only at fa fb fc fn
  cases rn with
  |true=>
   have e2:a.op=2:=fn.1 rfl
   repeat' (first|refine xx ?_|(refine xy ?_ ?_<;>intro hb<;>try(exfalso;omega))|(refine k_L ?_;first|(refine k_c ?_;refine a_cq rfl (fun m hm=>impl.withinQ) ?_)|(refine a_l rfl (rd_h (rd_gl h1)) ?_)|(refine a_i (e:=⟨some ⟨b,o,none⟩,cap⟩) rfl rfl ⟨fun _ _=>rfl⟩ (by omega) ?_)|(refine a_ls rfl (rs_h (rs_cods h3)) ?_))|fail)
   all_goals first
    |exact q_F (fun h=>by(try dsimp only at*);unfold ActP at h;omega)
    |exact q_B (fun _ _=>rfl) (by dsimp only at*;unfold ActP;first|(rw[beq_iff_eq];omega)|(rw[decide_eq_true_eq];omega)|exact⟨fun _=>by omega,fun _=>rfl⟩)
  |false=>
   have e2:a.op≠2:=fun e=>by have:=fn.2 e;cases this
   repeat' (first|refine xx ?_|(refine xy ?_ ?_<;>intro hb<;>try(exfalso;omega))|(refine k_L ?_;first|(refine k_c ?_;refine a_cq rfl (fun m hm=>impl.withinQ) ?_)|(refine a_l rfl (rd_h (rd_gl h1)) ?_)|(refine a_i (e:=⟨some ⟨b,o,none⟩,cap⟩) rfl rfl ⟨fun _ _=>rfl⟩ (by omega) ?_)|(refine a_ls rfl (rs_h (rs_cods h3)) ?_))|fail)
   all_goals first
    |exact q_F (fun h=>by(try dsimp only at*);unfold ActP at h;omega)
    |exact q_B (fun _ _=>rfl) (by dsimp only at*;unfold ActP;first|(rw[beq_iff_eq];omega)|(rw[decide_eq_true_eq];omega)|exact⟨fun _=>by omega,fun _=>rfl⟩)
 ·repeat' (first|refine xx ?_|(refine xy ?_ ?_<;>intro hb<;>try(exfalso;omega))|(refine k_L ?_;(refine k_c ?_;refine a_cq rfl (fun m hm=>impl.withinQ) ?_))|fail)
  all_goals first
   |exact q_F (fun h=>by(try dsimp only at*);unfold ActP at h;omega)
end Go.Proofs.YtpleoapljeffiaaGreatDoor.E
namespace Go.Proofs.YtpleoapljeffiaaGreatDoor.E
open Go Go.ChangeShapes Go.WideShapes Go.ChangeAt Go.RowKit
theorem gForms: Tryz.prog.globalNamed "loop.example/spool/impl.forms" = some 0 := by kernel_rfl
theorem tForms:(Tryz.prog.globals[0]?).map (·.type)=some 138:=by kernel_rfl
theorem cell_of{W:World}{b o:Nat}{v:Value}(h:W.cell? ⟨b,o,none⟩=some v):cell (memOf W) b o=some v:=by
 unfold World.cell? at h
 split at h
 ·rename_i c t fr hh
  have:=memOf_cells hh
  unfold cell
  rw[this]
  simp at h⊢
  exact h
 ·cases h
theorem fmD_inj{H:Type}{x y:Form}(h:(fmD x:DataW H)=fmD y):x=y:=by
 obtain⟨⟨⟨xn⟩⟩,xa,xb,xc,xd⟩:=x
 obtain⟨⟨⟨yn⟩⟩,ya,yb,yc,yd⟩:=y
 simp only[fmD,DataW.agg.injEq,List.cons.injEq,DataW.lit.injEq,Lit.string.injEq,Lit.int.injEq,Lit.bool.injEq,and_true,true_and]at h
 obtain⟨h1,rfl,rfl,rfl,rfl⟩:=h
 try simp only at h1
 subst h1
 rfl
abbrev laidF: List (String × DataW Unit) := [("loop.example/spool/impl.forms", Rows.laid_loop_example_spool_impl_forms)]
theorem frm_of_met{L:List (String×DataW Unit)}(hL:L=laidF){W:World}(h:laidMetH Tryz.prog L W):Frm (memOf W):=by
 subst hL
 rw[MakeChecks.laidMetH_plain _ _ _ (by kernel_rfl)]at h
 obtain⟨ps,⟨g0,t0,cs0,f0,p0,q0,hg0,ht0,hv0,hd0,_,_⟩,_,_⟩:=h
 obtain rfl:=Option.some.inj (gForms.symm.trans hg0)
 obtain rfl:=Option.some.inj (tForms.symm.trans ht0)
 obtain⟨v,xs,e,hsl,hl,hR⟩:=open_slD (f:=fmV) (size:=5) (R:=fun d x=>d=fmD x) (ds:=formsL.map fmD) (sp:=[]) (fun _=>rfl) (by omega) und_forms cof_form open_form hd0
 have hv:=World.var?_cell hg0 hv0 0
 have hx:xs=formsL:=by
  apply List.ext_getElem?
  intro i
  have hl':xs.length=formsL.length:=by rw[hl,List.length_map]
  cases hi:xs[i]? with
  |none=>rw[List.getElem?_eq_none_iff]at hi;rw[List.getElem?_eq_none (by omega)]
  |some y=>
   have hlt:=(List.getElem?_eq_some_iff.1 hi).1
   have hF:formsL[i]?=some formsL[i]:=List.getElem?_eq_getElem (by omega)
   have:=hR i (fmD formsL[i]) y (by rw[List.getElem?_map,hF];rfl) hi
   rw[hF,fmD_inj this]
 subst hx
 obtain⟨a,cap,rfl⟩:=hsl.len
 have hc0:cs0[0]?=some (.slice a formsL.length cap):=by rw[←Array.getElem?_toList,e];rfl
 rw[hc0]at hv
 obtain⟨b,o,rfl,_⟩:=hsl.at2 (fun _=>rfl) (i:=0) rfl
 refine⟨b,o,cap,cell_of hv,fun i F hF=>?_⟩
 obtain⟨b',o',e',h2⟩:=hsl.at2 (fun _=>rfl) hF
 cases e'
 exact h2
end Go.Proofs.YtpleoapljeffiaaGreatDoor.E
namespace Go.Proofs.YtpleoapljeffiaaGreatDoor.E
open Go
open Classical
theorem reachL_at{H:Heap}{i:Nat}(h:(reachL H)[i]?=some true):Reached H i:=by
 unfold reachL at h
 rw[List.getElem?_map]at h
 by_cases hi:i<H.cells.length
 ·rw[List.getElem?_range hi]at h
  simpa using h
 ·rw[List.getElem?_eq_none (by simp;omega)]at h
  cases h
theorem l2live_a{m:Mem}{a:Nat}{x:HX}(h:Has m (hp a x))(h1:R1 x.H)(h2:R2 x.H)(h4:R4 x.H):FnA Tryz.prog 63 [ptr a] [ro m] (fun v As=>v=.int .i64 (sumT x.H (reachL x.H) x.xs.length)∧As=[ro m]):=by
 refine fnA_of (fun h=>fn63 (by simp) h) ?_
 repeat' (first|refine xx ?_|fail)
 refine g_c rfl (l2reach_a h h1 h2 h4) (fun v As' hq=>?_)
 obtain⟨sd,kd,Q,rfl,rfl⟩:=hq
 repeat' (first|refine xx ?_|fail)
 refine g_c rfl (l2sum_a (L:=reachL x.H) h h1 h2 (by rw[reachL_len,x.len]) (fun i c hi hc=>?_)) (fun v As' hq=>?_)
 ·obtain⟨c',hc',hs,_⟩:=reached_ok h2 h4 (reachL_at hi)
  rw[hc]at hc';cases hc';exact hs
 obtain⟨rfl,rfl⟩:=hq
 repeat' (first|refine xx ?_|fail)
 exact fa_r (As':=[ro m]) (fun _ _=>rfl) (Pm.ent pmt) ⟨rfl,rfl⟩
section
variable {α:Type} {g:Int→α→α} {w:α→Int}
def mkG(g:Int→α→α)(w:α→Int):Int→List α→List α
 |_,[]=>[]
 |k,x::r=>g k x::mkG g w (k+w x) r
def mkT(w:α→Int):Int→List α→Int
 |k,[]=>k
 |k,x::r=>mkT w (k+w x) r
theorem mkT_ge(hw:∀x,0≤w x):∀(xs:List α) (k:Int),k≤mkT w k xs
 |[],k=>Int.le_refl _
 |x::r,k=>by have:=mkT_ge hw r (k+w x);have:=hw x;simp only[mkT];omega
theorem mkT_append:∀(xs ys:List α) (k:Int),mkT w k (xs++ys)=mkT w (mkT w k xs) ys
 |[],_,_=>rfl
 |x::r,ys,k=>by simp only[List.cons_append,mkT];exact mkT_append r ys _
theorem mkG_append:∀(xs ys:List α) (k:Int),mkG g w k (xs++ys)=mkG g w k xs++mkG g w (mkT w k xs) ys
 |[],_,_=>rfl
 |x::r,ys,k=>by simp only[List.cons_append,mkG,mkT];rw[mkG_append r ys]
theorem mkG_len:∀(xs:List α) (k:Int),(mkG g w k xs).length=xs.length
 |[],_=>rfl
 |x::r,k=>by simp only[mkG,List.length_cons];rw[mkG_len r]
theorem mkT_take{xs:List α}{i:Nat}{x:α}(h:xs[i]?=some x)(k:Int):mkT w k (xs.take (i+1))=mkT w k (xs.take i)+w x:=by
 rw[List.take_add_one,h,Option.toList_some,mkT_append];rfl
theorem mkG_take{xs:List α}{i:Nat}{x:α}(h:xs[i]?=some x)(k:Int):mkG g w k (xs.take (i+1))=mkG g w k (xs.take i)++[g (mkT w k (xs.take i)) x]:=by
 rw[List.take_add_one,h,Option.toList_some,mkG_append];rfl
theorem mkT_le(hw:∀x,0≤w x)(xs:List α)(k:Int)(i:Nat):mkT w k (xs.take i)≤mkT w k xs:=by
 have:mkT w k xs=mkT w (mkT w k (xs.take i)) (xs.drop i):=by rw[←mkT_append,List.take_append_drop]
 rw[this];exact mkT_ge hw _ _
theorem mkG_get{xs:List α}{i:Nat}{x:α}(h:xs[i]?=some x)(k:Int):(mkG g w k xs)[i]?=some (g (mkT w k (xs.take i)) x):=by
 have hi:=(List.getElem?_eq_some_iff.1 h).1
 have e:mkG g w k xs=mkG g w k (xs.take (i+1))++mkG g w (mkT w k (xs.take (i+1))) (xs.drop (i+1)):=by rw[←mkG_append,List.take_append_drop]
 rw[e,mkG_take h,List.append_assoc,List.getElem?_append_right (by rw[mkG_len,List.length_take];omega)]
 rw[mkG_len,List.length_take,Nat.min_eq_left (by omega),Nat.sub_self];rfl
theorem mid_get{xs:List α}{i:Nat}{x:α}(h:xs[i]?=some x)(k:Int):(mkG g w k (xs.take i)++xs.drop i)[i]?=some x:=by
 have hi:=(List.getElem?_eq_some_iff.1 h).1
 rw[List.getElem?_append_right (by rw[mkG_len,List.length_take];omega),mkG_len,List.length_take,Nat.min_eq_left (by omega),Nat.sub_self,List.getElem?_drop];exact h
theorem mid_set{xs:List α}{i:Nat}{x y:α}(h:xs[i]?=some x){k kk:Int}(hk:kk=mkT w k (xs.take i))(hy:y=g kk x):(mkG g w k (xs.take i)++xs.drop i).set i y=mkG g w k (xs.take (i+1))++xs.drop (i+1):=by
 have hi:=(List.getElem?_eq_some_iff.1 h).1
 rw[List.set_append_right _ _ (by rw[mkG_len,List.length_take];omega),mkG_len,List.length_take,Nat.min_eq_left (by omega),Nat.sub_self,mkG_take h,hy,hk]
 rw[List.drop_eq_getElem_cons hi,List.set_cons_zero]
 simp
end
theorem set_get{α:Type}{l:List α}{i:Nat}{x y:α}(h:l[i]?=some x):(l.set i y)[i]?=some y:=by
 rw[List.getElem?_set_self (List.getElem?_eq_some_iff.1 h).1]
theorem OffL.refl(M:Mem)(L:List Nat):OffL M L M:=fun _ _ h _=>h
theorem OffL.off{M0 M M':Mem}{L:List Nat}{b:Nat}(h:OffL M0 L M)(o:Off M b M')(hb:b∈L):OffL M0 L M':=fun c k e hc=>by
 rw[o c (fun e'=>hc (e'▸hb))];exact h c k e hc
theorem OffL.trans{M0 M M':Mem}{L:List Nat}(h:OffL M0 L M)(o:OffL M L M'):OffL M0 L M':=fun c k e hc=>o c k (h c k e hc) hc
theorem OffL.mono{M M':Mem}{L L':List Nat}(h:OffL M L M')(l:∀b,b∈L→b∈L'):OffL M L' M':=fun c k e hc=>h c k e (fun m=>hc (l c m))
theorem OffL.le{M0 M M':Mem}{L:List Nat}(h:OffL M L M')(l:M0.le M)(hn:∀b,b∈L→M0 b=none):M0.le M':=fun c k e=>h c k (l c k e) (fun m=>by rw[hn c m]at e;cases e)
def gW(k:Int)(_:Word):Word:=⟨k,k+1,k+1+1⟩
def gP(k:Int)(_:Pair):Pair:=⟨⟨k,k+1,k+1+1⟩,⟨k+1+1+1,k+1+1+1+1,k+1+1+1+1+1⟩⟩
def gI(k:Int)(_:Int):Int:=k
def wW(_:Word):Int:=3
def wP(_:Pair):Int:=6
def wI(_:Int):Int:=1
theorem mkT_const{α:Type}{w:α→Int}{c:Int}(h:∀x,w x=c):∀(xs:List α) (k:Int),mkT w k xs=k+c*xs.length
 |[],k=>by simp[mkT]
 |x::r,k=>by simp only[mkT,List.length_cons];rw[mkT_const h r,h,Int.natCast_add,Int.mul_add];omega
theorem markWordS_f{M:Mem}{va:Value}{xs:List Word}{k:Int}(h0:0≤k)(hb:mkT wW k xs≤4611686018427387904)(ha:Sl M 3 wv va xs):
 Fn Tryz.prog 50 [va,.int .i64 k] M (fun v M'=>v=.int .i64 (mkT wW k xs)∧OffL M (own va) M'∧Sl M' 3 wv va (mkG gW wW k xs)):=by
 obtain⟨aa,ca,ea⟩:=ha.len
 have hbd:=ha.bound
 refine fn50 (by simp) ?_
 subst ea
 repeat' (first
  |(refine vl_pure rfl ?_)
  |(refine vl_nil ?_)
  |(refine VC.seq ?_)
  |(refine VC.regV ?_)
  |(refine VC.block ?_))
 refine VC.loop (α:=Nat×Int) (fun p=>[(0,.v (.slice aa xs.length ca)),(1,.v (.int .i64 p.2)),(5,.v (.int .i64 p.1))]) (fun n p M'=>n=xs.length-p.1∧p.1≤xs.length∧p.2=mkT wW k (xs.take p.1)∧OffL M (own (.slice aa xs.length ca)) M'∧Sl M' 3 wv (.slice aa xs.length ca) (mkG gW wW k (xs.take p.1)++xs.drop p.1))
  ⟨_,(0,k),M,⟨rfl,rfl,rfl,trivial⟩,Mem.le_refl _,rfl,Nat.zero_le _,rfl,OffL.refl _ _,ha⟩ ?_
 rintro n ⟨i,kk⟩ M2 ⟨rfl,hi,hkk,hoff,hsl⟩
 dsimp only at hi hkk hoff hsl⊢
 repeat' (first
  |(refine vl_pure rfl ?_)
  |(refine vl_nil ?_)
  |(refine VC.seq ?_)
  |(refine VC.regV ?_)
  |(refine seqQ_n ?_))
 refine VC.cond _ rfl (fun h=>?_) (fun h=>?_)
 ·have hi:i<xs.length:=by simpa using h
  obtain⟨x,gx⟩:∃x,xs[i]?=some x:=⟨_,List.getElem?_eq_getElem hi⟩
  obtain⟨b,o,rfl,c1⟩:=hsl.at2 (fun _=>rfl) (mid_get gx k)
  have hk1:=mkT_take (w:=wW) gx k
  have hk2:=mkT_le (w:=wW) (fun _=>by unfold wW;omega) xs k (i+1)
  have hk3:=mkT_ge (w:=wW) (fun _=>by unfold wW;omega) (xs.take i) k
  have hwx:wW x=3:=rfl
  repeat' (first
   |(refine vl_pure rfl ?_)
   |(refine VC.seq ?_)
   |(refine VC.regV ?_)
   |(refine vl_idx rfl rfl (by omega) ?_)
   |(refine VC.block ?_)
   |(refine VC.skip ?_))
  refine vl_sts (⟨kk,x.num,x.at_⟩) hsl (fun _=>rfl) (mid_get gx k) (i:=i) (j:=0) rfl rfl rfl rfl (Nat.le_of_ble_eq_true rfl) rfl (fun M1 o1 s1=>?_)
  repeat' (first
   |(refine vl_add rfl rfl (by omega) ?_)
   |(refine vl_pure rfl ?_)
   |(refine vl_nil ?_)
   |(refine VC.seq ?_)
   |(refine VC.regV ?_)
   |(refine vl_idx rfl rfl (by omega) ?_))
  refine vl_sts (⟨kk,kk+1,x.at_⟩) s1 (fun _=>rfl) (set_get (mid_get gx k)) (i:=i) (j:=1) rfl rfl rfl rfl (Nat.le_of_ble_eq_true rfl) rfl (fun M2 o2 s2=>?_)
  rw[List.set_set]at s2
  repeat' (first
   |(refine vl_add rfl rfl (by omega) ?_)
   |(refine vl_pure rfl ?_)
   |(refine vl_nil ?_)
   |(refine VC.seq ?_)
   |(refine VC.regV ?_)
   |(refine vl_idx rfl rfl (by omega) ?_))
  refine vl_sts (gW kk x) s2 (fun _=>rfl) (set_get (mid_get gx k)) (i:=i) (j:=2) rfl rfl rfl rfl (Nat.le_of_ble_eq_true rfl) rfl (fun M3 o3 s3=>?_)
  rw[List.set_set]at s3
  repeat' (first
   |(refine xw ?_)
   |(refine seqQ_n ?_)
   |(fail))
  refine⟨_,(i+1,_),_,?_,⟨rfl,rfl,rfl,trivial⟩,Mem.le_refl _,rfl,hi,?_,(((hoff.off o1 (by simp[own])).off o2 (by simp[own])).off o3 (by simp[own])),?_⟩
  ·dsimp only;omega
  ·dsimp only;omega
  ·rw[mid_set (g:=gW) gx hkk rfl]at s3;exact s3
 ·have hi:¬i<xs.length:=by simpa using h
  repeat' (first
   |(refine xw ?_)
   |(fail))
  rw[List.drop_of_length_le (by omega),List.append_nil,List.take_of_length_le (by omega)]at hsl
  rw[List.take_of_length_le (by omega)]at hkk
  exact fnQ_r rfl (Mem.le_refl _) ⟨by rw[hkk],hoff,hsl⟩
theorem markPairS_f{M:Mem}{va:Value}{xs:List Pair}{k:Int}(h0:0≤k)(hb:mkT wP k xs≤4611686018427387904)(ha:Sl M 6 pv va xs):
 Fn Tryz.prog 87 [va,.int .i64 k] M (fun v M'=>v=.int .i64 (mkT wP k xs)∧OffL M (own va) M'∧Sl M' 6 pv va (mkG gP wP k xs)):=by
 obtain⟨aa,ca,ea⟩:=ha.len
 have hbd:=ha.bound
 refine fn87 (by simp) ?_
 subst ea
 repeat' (first
  |(refine vl_pure rfl ?_)
  |(refine vl_nil ?_)
  |(refine VC.seq ?_)
  |(refine VC.regV ?_)
  |(refine VC.block ?_))
 refine VC.loop (α:=Nat×Int) (fun p=>[(0,.v (.slice aa xs.length ca)),(1,.v (.int .i64 p.2)),(5,.v (.int .i64 p.1))]) (fun n p M'=>n=xs.length-p.1∧p.1≤xs.length∧p.2=mkT wP k (xs.take p.1)∧OffL M (own (.slice aa xs.length ca)) M'∧Sl M' 6 pv (.slice aa xs.length ca) (mkG gP wP k (xs.take p.1)++xs.drop p.1))
  ⟨_,(0,k),M,⟨rfl,rfl,rfl,trivial⟩,Mem.le_refl _,rfl,Nat.zero_le _,rfl,OffL.refl _ _,ha⟩ ?_
 rintro n ⟨i,kk⟩ M2 ⟨rfl,hi,hkk,hoff,hsl⟩
 dsimp only at hi hkk hoff hsl⊢
 repeat' (first
  |(refine vl_pure rfl ?_)
  |(refine vl_nil ?_)
  |(refine VC.seq ?_)
  |(refine VC.regV ?_)
  |(refine seqQ_n ?_))
 refine VC.cond _ rfl (fun h=>?_) (fun h=>?_)
 ·have hi:i<xs.length:=by simpa using h
  obtain⟨x,gx⟩:∃x,xs[i]?=some x:=⟨_,List.getElem?_eq_getElem hi⟩
  obtain⟨b,o,rfl,c1⟩:=hsl.at2 (fun _=>rfl) (mid_get gx k)
  have hk1:=mkT_take (w:=wP) gx k
  have hk2:=mkT_le (w:=wP) (fun _=>by unfold wP;omega) xs k (i+1)
  have hk3:=mkT_ge (w:=wP) (fun _=>by unfold wP;omega) (xs.take i) k
  have hwx:wP x=6:=rfl
  repeat' (first
   |(refine vl_pure rfl ?_)
   |(refine VC.seq ?_)
   |(refine VC.regV ?_)
   |(refine vl_idx rfl rfl (by omega) ?_)
   |(refine VC.block ?_)
   |(refine VC.skip ?_))
  refine vl_sts (⟨⟨kk,x.key.num,x.key.at_⟩,x.val⟩) hsl (fun _=>rfl) (mid_get gx k) (i:=i) (j:=0) rfl rfl rfl rfl (Nat.le_of_ble_eq_true rfl) rfl (fun M1 o1 s1=>?_)
  repeat' (first
   |(refine vl_add rfl rfl (by omega) ?_)
   |(refine vl_pure rfl ?_)
   |(refine vl_nil ?_)
   |(refine VC.seq ?_)
   |(refine VC.regV ?_)
   |(refine vl_idx rfl rfl (by omega) ?_))
  refine vl_sts (⟨⟨kk,kk+1,x.key.at_⟩,x.val⟩) s1 (fun _=>rfl) (set_get (mid_get gx k)) (i:=i) (j:=1) rfl rfl rfl rfl (Nat.le_of_ble_eq_true rfl) rfl (fun M2 o2 s2=>?_)
  rw[List.set_set]at s2
  repeat' (first
   |(refine vl_add rfl rfl (by omega) ?_)
   |(refine vl_pure rfl ?_)
   |(refine vl_nil ?_)
   |(refine VC.seq ?_)
   |(refine VC.regV ?_)
   |(refine vl_idx rfl rfl (by omega) ?_))
  refine vl_sts (⟨⟨kk,kk+1,kk+1+1⟩,x.val⟩) s2 (fun _=>rfl) (set_get (mid_get gx k)) (i:=i) (j:=2) rfl rfl rfl rfl (Nat.le_of_ble_eq_true rfl) rfl (fun M3 o3 s3=>?_)
  rw[List.set_set]at s3
  repeat' (first
   |(refine vl_add rfl rfl (by omega) ?_)
   |(refine vl_pure rfl ?_)
   |(refine vl_nil ?_)
   |(refine VC.seq ?_)
   |(refine VC.regV ?_)
   |(refine vl_idx rfl rfl (by omega) ?_))
  refine vl_sts (⟨⟨kk,kk+1,kk+1+1⟩,⟨kk+1+1+1,x.val.num,x.val.at_⟩⟩) s3 (fun _=>rfl) (set_get (mid_get gx k)) (i:=i) (j:=3) rfl rfl rfl rfl (Nat.le_of_ble_eq_true rfl) rfl (fun M4 o4 s4=>?_)
  rw[List.set_set]at s4
  repeat' (first
   |(refine vl_add rfl rfl (by omega) ?_)
   |(refine vl_pure rfl ?_)
   |(refine vl_nil ?_)
   |(refine VC.seq ?_)
   |(refine VC.regV ?_)
   |(refine vl_idx rfl rfl (by omega) ?_))
  refine vl_sts (⟨⟨kk,kk+1,kk+1+1⟩,⟨kk+1+1+1,kk+1+1+1+1,x.val.at_⟩⟩) s4 (fun _=>rfl) (set_get (mid_get gx k)) (i:=i) (j:=4) rfl rfl rfl rfl (Nat.le_of_ble_eq_true rfl) rfl (fun M5 o5 s5=>?_)
  rw[List.set_set]at s5
  repeat' (first
   |(refine vl_add rfl rfl (by omega) ?_)
   |(refine vl_pure rfl ?_)
   |(refine vl_nil ?_)
   |(refine VC.seq ?_)
   |(refine VC.regV ?_)
   |(refine vl_idx rfl rfl (by omega) ?_))
  refine vl_sts (gP kk x) s5 (fun _=>rfl) (set_get (mid_get gx k)) (i:=i) (j:=5) rfl rfl rfl rfl (Nat.le_of_ble_eq_true rfl) rfl (fun M6 o6 s6=>?_)
  rw[List.set_set]at s6
  repeat' (first
   |(refine xw ?_)
   |(refine seqQ_n ?_)
   |(fail))
  refine⟨_,(i+1,_),_,?_,⟨rfl,rfl,rfl,trivial⟩,Mem.le_refl _,rfl,hi,?_,((((((hoff.off o1 (by simp[own])).off o2 (by simp[own])).off o3 (by simp[own])).off o4 (by simp[own])).off o5 (by simp[own])).off o6 (by simp[own])),?_⟩
  ·dsimp only;omega
  ·dsimp only;omega
  ·rw[mid_set (g:=gP) gx hkk rfl]at s6;exact s6
 ·have hi:¬i<xs.length:=by simpa using h
  repeat' (first
   |(refine xw ?_)
   |(fail))
  rw[List.drop_of_length_le (by omega),List.append_nil,List.take_of_length_le (by omega)]at hsl
  rw[List.take_of_length_le (by omega)]at hkk
  exact fnQ_r rfl (Mem.le_refl _) ⟨by rw[hkk],hoff,hsl⟩
theorem markIntS_f{M:Mem}{va:Value}{xs:List Int}{k:Int}(h0:0≤k)(hb:mkT wI k xs≤4611686018427387904)(ha:Sl M 1 iv va xs):
 Fn Tryz.prog 52 [va,.int .i64 k] M (fun v M'=>v=.int .i64 (mkT wI k xs)∧OffL M (own va) M'∧Sl M' 1 iv va (mkG gI wI k xs)):=by
 obtain⟨aa,ca,ea⟩:=ha.len
 have hbd:=ha.bound
 refine fn52 (by simp) ?_
 subst ea
 repeat' (first
  |(refine vl_pure rfl ?_)
  |(refine vl_nil ?_)
  |(refine VC.seq ?_)
  |(refine VC.regV ?_)
  |(refine VC.block ?_))
 refine VC.loop (α:=Nat×Int) (fun p=>[(0,.v (.slice aa xs.length ca)),(1,.v (.int .i64 p.2)),(5,.v (.int .i64 p.1))]) (fun n p M'=>n=xs.length-p.1∧p.1≤xs.length∧p.2=mkT wI k (xs.take p.1)∧OffL M (own (.slice aa xs.length ca)) M'∧Sl M' 1 iv (.slice aa xs.length ca) (mkG gI wI k (xs.take p.1)++xs.drop p.1))
  ⟨_,(0,k),M,⟨rfl,rfl,rfl,trivial⟩,Mem.le_refl _,rfl,Nat.zero_le _,rfl,OffL.refl _ _,ha⟩ ?_
 rintro n ⟨i,kk⟩ M2 ⟨rfl,hi,hkk,hoff,hsl⟩
 dsimp only at hi hkk hoff hsl⊢
 repeat' (first
  |(refine vl_pure rfl ?_)
  |(refine vl_nil ?_)
  |(refine VC.seq ?_)
  |(refine VC.regV ?_)
  |(refine seqQ_n ?_))
 refine VC.cond _ rfl (fun h=>?_) (fun h=>?_)
 ·have hi:i<xs.length:=by simpa using h
  obtain⟨x,gx⟩:∃x,xs[i]?=some x:=⟨_,List.getElem?_eq_getElem hi⟩
  obtain⟨b,o,rfl,c1⟩:=hsl.at2 (fun _=>rfl) (mid_get gx k)
  have hk1:=mkT_take (w:=wI) gx k
  have hk2:=mkT_le (w:=wI) (fun _=>by unfold wI;omega) xs k (i+1)
  have hk3:=mkT_ge (w:=wI) (fun _=>by unfold wI;omega) (xs.take i) k
  have hwx:wI x=1:=rfl
  repeat' (first
   |(refine vl_pure rfl ?_)
   |(refine VC.seq ?_)
   |(refine VC.regV ?_)
   |(refine vl_idx rfl rfl (by omega) ?_)
   |(refine VC.block ?_)
   |(refine VC.skip ?_))
  refine vl_sts (gI kk x) hsl (fun _=>rfl) (mid_get gx k) (i:=i) (j:=0) rfl rfl rfl rfl (Nat.le_of_ble_eq_true rfl) rfl (fun M1 o1 s1=>?_)
  repeat' (first
   |(refine xw ?_)
   |(refine seqQ_n ?_)
   |(fail))
  refine⟨_,(i+1,_),_,?_,⟨rfl,rfl,rfl,trivial⟩,Mem.le_refl _,rfl,hi,?_,(hoff.off o1 (by simp[own])),?_⟩
  ·dsimp only;omega
  ·dsimp only;omega
  ·rw[mid_set (g:=gI) gx hkk rfl]at s1;exact s1
 ·have hi:¬i<xs.length:=by simpa using h
  repeat' (first
   |(refine xw ?_)
   |(fail))
  rw[List.drop_of_length_le (by omega),List.append_nil,List.take_of_length_le (by omega)]at hsl
  rw[List.take_of_length_le (by omega)]at hkk
  exact fnQ_r rfl (Mem.le_refl _) ⟨by rw[hkk],hoff,hsl⟩
theorem heldWordS_q{M:Mem}{va:Value}{xs:List Word}{k:Int}(h0:0≤k)(hb:mkT wW k xs≤4611686018427387904)(ha:Sl M 3 wv va (mkG gW wW k xs)):
 Qt Tryz.prog 67 [va,.int .i64 k] M (.int .i64 (mkT wW k xs)):=by
 obtain⟨aa,ca,ea⟩:=ha.len
 have hbd:=ha.bound
 rw[mkG_len]at ea hbd
 refine fn67 (by simp) ?_
 subst ea
 repeat' (first
  |(refine vl_pure rfl ?_)
  |(refine vl_nil ?_)
  |(refine VC.seq ?_)
  |(refine VC.regV ?_)
  |(refine VC.block ?_))
 refine VC.loop (α:=Nat×Int) (fun p=>[(0,.v (.slice aa xs.length ca)),(1,.v (.int .i64 p.2)),(5,.v (.int .i64 p.1))]) (fun n p M'=>n=xs.length-p.1∧p.1≤xs.length∧p.2=mkT wW k (xs.take p.1)∧M'=M)
  ⟨_,(0,k),M,⟨rfl,rfl,rfl,trivial⟩,Mem.le_refl _,rfl,Nat.zero_le _,rfl,rfl⟩ ?_
 rintro n ⟨i,kk⟩ M2 ⟨rfl,hi,hkk,rfl⟩
 dsimp only at hi hkk⊢
 repeat' (first
  |(refine vl_pure rfl ?_)
  |(refine vl_nil ?_)
  |(refine VC.seq ?_)
  |(refine VC.regV ?_)
  |(refine seqQ_n ?_))
 refine VC.cond _ rfl (fun h=>?_) (fun h=>?_)
 ·have hi:i<xs.length:=by simpa using h
  obtain⟨x,gx⟩:∃x,xs[i]?=some x:=⟨_,List.getElem?_eq_getElem hi⟩
  obtain⟨b,o,rfl,c1⟩:=ha.at2 (fun _=>rfl) (mkG_get gx k)
  rw[←hkk]at c1
  have hk1:=mkT_take (w:=wW) gx k
  have hk2:=mkT_le (w:=wW) (fun _=>by unfold wW;omega) xs k (i+1)
  have hk3:=mkT_ge (w:=wW) (fun _=>by unfold wW;omega) (xs.take i) k
  have hwx:wW x=3:=rfl
  repeat' (first
   |(refine xw ?_)
   |(refine vl_ld rfl (by first|exact cells_cell c1 (j:=0) rfl|exact cells_cell c1 (j:=1) rfl|exact cells_cell c1 (j:=2) rfl) ?_)
   |(refine seqQ_n ?_)
   |(refine seqQ_r ?_)
   |(refine blkQ_r ?_)
   |(refine VC.cond _ rfl (fun hb=>?_) (fun hb=>?_))
   |(fail))
  any_goals (simp[gW]at hb;done)
  refine⟨_,(i+1,_),_,?_,⟨rfl,rfl,rfl,trivial⟩,Mem.le_refl _,rfl,hi,?_,rfl⟩
  ·dsimp only;omega
  ·dsimp only;omega
 ·have hi:¬i<xs.length:=by simpa using h
  repeat' (first
   |(refine xw ?_)
   |(fail))
  rw[List.take_of_length_le (by omega)]at hkk
  exact fnQ_r rfl (Mem.le_refl _) ⟨by rw[hkk],rfl⟩
theorem heldPairS_q{M:Mem}{va:Value}{xs:List Pair}{k:Int}(h0:0≤k)(hb:mkT wP k xs≤4611686018427387904)(ha:Sl M 6 pv va (mkG gP wP k xs)):
 Qt Tryz.prog 106 [va,.int .i64 k] M (.int .i64 (mkT wP k xs)):=by
 obtain⟨aa,ca,ea⟩:=ha.len
 have hbd:=ha.bound
 rw[mkG_len]at ea hbd
 refine fn106 (by simp) ?_
 subst ea
 repeat' (first
  |(refine vl_pure rfl ?_)
  |(refine vl_nil ?_)
  |(refine VC.seq ?_)
  |(refine VC.regV ?_)
  |(refine VC.block ?_))
 refine VC.loop (α:=Nat×Int) (fun p=>[(0,.v (.slice aa xs.length ca)),(1,.v (.int .i64 p.2)),(5,.v (.int .i64 p.1))]) (fun n p M'=>n=xs.length-p.1∧p.1≤xs.length∧p.2=mkT wP k (xs.take p.1)∧M'=M)
  ⟨_,(0,k),M,⟨rfl,rfl,rfl,trivial⟩,Mem.le_refl _,rfl,Nat.zero_le _,rfl,rfl⟩ ?_
 rintro n ⟨i,kk⟩ M2 ⟨rfl,hi,hkk,rfl⟩
 dsimp only at hi hkk⊢
 repeat' (first
  |(refine vl_pure rfl ?_)
  |(refine vl_nil ?_)
  |(refine VC.seq ?_)
  |(refine VC.regV ?_)
  |(refine seqQ_n ?_))
 refine VC.cond _ rfl (fun h=>?_) (fun h=>?_)
 ·have hi:i<xs.length:=by simpa using h
  obtain⟨x,gx⟩:∃x,xs[i]?=some x:=⟨_,List.getElem?_eq_getElem hi⟩
  obtain⟨b,o,rfl,c1⟩:=ha.at2 (fun _=>rfl) (mkG_get gx k)
  rw[←hkk]at c1
  have hk1:=mkT_take (w:=wP) gx k
  have hk2:=mkT_le (w:=wP) (fun _=>by unfold wP;omega) xs k (i+1)
  have hk3:=mkT_ge (w:=wP) (fun _=>by unfold wP;omega) (xs.take i) k
  have hwx:wP x=6:=rfl
  repeat' (first
   |(refine xw ?_)
   |(refine vl_ld rfl (by first|exact cells_cell c1 (j:=0) rfl|exact cells_cell c1 (j:=1) rfl|exact cells_cell c1 (j:=2) rfl|exact cells_cell c1 (j:=3) rfl|exact cells_cell c1 (j:=4) rfl|exact cells_cell c1 (j:=5) rfl) ?_)
   |(refine seqQ_n ?_)
   |(refine seqQ_r ?_)
   |(refine blkQ_r ?_)
   |(refine VC.cond _ rfl (fun hb=>?_) (fun hb=>?_))
   |(fail))
  any_goals (simp[gP]at hb;done)
  refine⟨_,(i+1,_),_,?_,⟨rfl,rfl,rfl,trivial⟩,Mem.le_refl _,rfl,hi,?_,rfl⟩
  ·dsimp only;omega
  ·dsimp only;omega
 ·have hi:¬i<xs.length:=by simpa using h
  repeat' (first
   |(refine xw ?_)
   |(fail))
  rw[List.take_of_length_le (by omega)]at hkk
  exact fnQ_r rfl (Mem.le_refl _) ⟨by rw[hkk],rfl⟩
theorem heldIntS_q{M:Mem}{va:Value}{xs:List Int}{k:Int}(h0:0≤k)(hb:mkT wI k xs≤4611686018427387904)(ha:Sl M 1 iv va (mkG gI wI k xs)):
 Qt Tryz.prog 69 [va,.int .i64 k] M (.int .i64 (mkT wI k xs)):=by
 obtain⟨aa,ca,ea⟩:=ha.len
 have hbd:=ha.bound
 rw[mkG_len]at ea hbd
 refine fn69 (by simp) ?_
 subst ea
 repeat' (first
  |(refine vl_pure rfl ?_)
  |(refine vl_nil ?_)
  |(refine VC.seq ?_)
  |(refine VC.regV ?_)
  |(refine VC.block ?_))
 refine VC.loop (α:=Nat×Int) (fun p=>[(0,.v (.slice aa xs.length ca)),(1,.v (.int .i64 p.2)),(5,.v (.int .i64 p.1))]) (fun n p M'=>n=xs.length-p.1∧p.1≤xs.length∧p.2=mkT wI k (xs.take p.1)∧M'=M)
  ⟨_,(0,k),M,⟨rfl,rfl,rfl,trivial⟩,Mem.le_refl _,rfl,Nat.zero_le _,rfl,rfl⟩ ?_
 rintro n ⟨i,kk⟩ M2 ⟨rfl,hi,hkk,rfl⟩
 dsimp only at hi hkk⊢
 repeat' (first
  |(refine vl_pure rfl ?_)
  |(refine vl_nil ?_)
  |(refine VC.seq ?_)
  |(refine VC.regV ?_)
  |(refine seqQ_n ?_))
 refine VC.cond _ rfl (fun h=>?_) (fun h=>?_)
 ·have hi:i<xs.length:=by simpa using h
  obtain⟨x,gx⟩:∃x,xs[i]?=some x:=⟨_,List.getElem?_eq_getElem hi⟩
  obtain⟨b,o,rfl,c1⟩:=ha.at2 (fun _=>rfl) (mkG_get gx k)
  rw[←hkk]at c1
  have hk1:=mkT_take (w:=wI) gx k
  have hk2:=mkT_le (w:=wI) (fun _=>by unfold wI;omega) xs k (i+1)
  have hk3:=mkT_ge (w:=wI) (fun _=>by unfold wI;omega) (xs.take i) k
  have hwx:wI x=1:=rfl
  repeat' (first
   |(refine xw ?_)
   |(refine vl_ld rfl (by first|exact cells_cell c1 (j:=0) rfl) ?_)
   |(refine seqQ_n ?_)
   |(refine seqQ_r ?_)
   |(refine blkQ_r ?_)
   |(refine VC.cond _ rfl (fun hb=>?_) (fun hb=>?_))
   |(fail))
  any_goals (simp[gI]at hb;done)
  refine⟨_,(i+1,_),_,?_,⟨rfl,rfl,rfl,trivial⟩,Mem.le_refl _,rfl,hi,?_,rfl⟩
  ·dsimp only;omega
  ·dsimp only;omega
 ·have hi:¬i<xs.length:=by simpa using h
  repeat' (first
   |(refine xw ?_)
   |(fail))
  rw[List.take_of_length_le (by omega)]at hkk
  exact fnQ_r rfl (Mem.le_refl _) ⟨by rw[hkk],rfl⟩
theorem Sl.congr{M:Mem}{α:Type}{f:α→List Value}{size:Nat}{v:Value}{xs ys:List α}(h:Sl M size f v xs)(e:xs.map f=ys.map f):Sl M size f v ys:=by
 have hl:xs.length=ys.length:=by have:=congrArg List.length e;simpa using this
 have hf:xs.flatMap f=ys.flatMap f:=by rw[List.flatMap_def,List.flatMap_def,e]
 rcases h with⟨c,h1,h2,rfl⟩|⟨b,o,cap,row,h1,hM,hc,h2,hr,he⟩
 ·exact .inl ⟨c,h1,h2,by cases ys with|nil=>rfl|cons y r=>simp at hl⟩
 ·rw[hl]at h1 hc h2 he
  exact .inr ⟨b,o,cap,row,h1,hM,hc,h2,hr,by rw[he,hf]⟩
def gC(k:Int)(c:Cell):Cell:=⟨k,k+1,k+1+1,k+1+1+1,k+1+1+1+1,k+1+1+1+1+1,k+1+1+1+1+1+1,mkG gP wP (k+1+1+1+1+1+1+1) c.pairs⟩
def wC(c:Cell):Int:=7+6*c.pairs.length
def gCS(k:Int)(y:CS):CS:=⟨gC k y.c,y.sa,y.cap⟩
def wCS(y:CS):Int:=wC y.c
def hCS(k:Int)(y:CS):CS:=⟨⟨k,k+1,k+1+1,k+1+1+1,k+1+1+1+1,k+1+1+1+1+1,k+1+1+1+1+1+1,y.c.pairs⟩,y.sa,y.cap⟩
theorem csv_hCS(k:Int)(y:CS):csv (hCS k y)=csv (gCS k y):=by
 simp only[csv,cv,hCS,gCS,gC,mkG_len]
theorem gCS_s(k:Int)(y:CS):(gCS k y).s=y.s:=by simp only[CS.s,gCS,gC,mkG_len]
theorem wCS_nn(y:CS):0≤wCS y:=by unfold wCS wC;omega
theorem wP_T(xs:List Pair)(k:Int):mkT wP k xs=k+6*xs.length:=mkT_const (w:=wP) (c:=6) (fun _=>rfl) xs k
theorem mkG_gCS_c:∀(xs:List CS) (k:Int),(mkG gCS wCS k xs).map (·.c)=mkG gC wC k (xs.map (·.c))
 |[],_=>rfl
 |x::r,k=>by simp only[mkG,List.map_cons];rw[mkG_gCS_c r];rfl
theorem mkT_wCS:∀(xs:List CS) (k:Int),mkT wCS k xs=mkT wC k (xs.map (·.c))
 |[],_=>rfl
 |x::r,k=>by simp only[mkT,List.map_cons];rw[mkT_wCS r];rfl
theorem mkG_own:∀(xs:List CS) (k:Int),((mkG gCS wCS k xs).flatMap fun y=>own y.s)=xs.flatMap fun y=>own y.s
 |[],_=>rfl
 |x::r,k=>by simp only[mkG,List.flatMap_cons,gCS_s];rw[mkG_own r]
theorem flat_apart{α β:Type}{f:α→List β}:∀{xs:List α} {i j:Nat} {x y:α},(xs.flatMap f).Nodup→xs[i]?=some x→xs[j]?=some y→i≠j→∀b,b∈f x→b∉f y
 |[],i,_,x,_,_,h,_,_,_,_,_=>by simp at h
 |z::r,i,j,x,y,hn,hi,hj,hij,b,hb,hc=>by
  rw[List.flatMap_cons,List.nodup_append]at hn
  obtain⟨_,hr,hd⟩:=hn
  cases i with
  |zero=>
   cases j with
   |zero=>exact hij rfl
   |succ j=>
    simp only[List.getElem?_cons_zero,Option.some.injEq]at hi
    simp only[List.getElem?_cons_succ]at hj
    subst hi
    exact hd b hb b (List.mem_flatMap.2 ⟨y,List.mem_of_getElem? hj,hc⟩) rfl
  |succ i=>
   simp only[List.getElem?_cons_succ]at hi
   cases j with
   |zero=>
    simp only[List.getElem?_cons_zero,Option.some.injEq]at hj
    subst hj
    exact hd b hc b (List.mem_flatMap.2 ⟨x,List.mem_of_getElem? hi,hb⟩) rfl
   |succ j=>
    simp only[List.getElem?_cons_succ]at hj
    exact flat_apart hr hi hj (by omega) b hb hc
theorem mid_own{xs:List CS}{i:Nat}{k:Int}:((mkG gCS wCS k (xs.take i)++xs.drop i).flatMap fun y=>own y.s)=xs.flatMap fun y=>own y.s:=by
 rw[List.flatMap_append,mkG_own,←List.flatMap_append,List.take_append_drop]
theorem markCellS_f{M:Mem}{va:Value}{xs:List CS}{k:Int}(h0:0≤k)(hb:mkT wCS k xs≤4611686018427387904)(ha:CL M va xs)(hnd:(fpC va xs).Nodup):
 Fn Tryz.prog 51 [va,.int .i64 k] M (fun v M'=>v=.int .i64 (mkT wCS k xs)∧OffL M (fpC va xs) M'∧CL M' va (mkG gCS wCS k xs)):=by
 obtain⟨aa,ca,ea⟩:=ha.sl.len
 have hbd:=ha.sl.bound
 refine fn51 (by simp) ?_
 subst ea
 repeat' (first
  |(refine vl_pure rfl ?_)
  |(refine vl_nil ?_)
  |(refine VC.seq ?_)
  |(refine VC.regV ?_)
  |(refine VC.block ?_))
 refine VC.loop (α:=Nat×Int) (fun p=>[(0,.v (.slice aa xs.length ca)),(1,.v (.int .i64 p.2)),(5,.v (.int .i64 p.1))]) (fun n p M'=>n=xs.length-p.1∧p.1≤xs.length∧p.2=mkT wCS k (xs.take p.1)∧OffL M (fpC (.slice aa xs.length ca) xs) M'∧CL M' (.slice aa xs.length ca) (mkG gCS wCS k (xs.take p.1)++xs.drop p.1))
  ⟨_,(0,k),M,⟨rfl,rfl,rfl,trivial⟩,Mem.le_refl _,rfl,Nat.zero_le _,rfl,OffL.refl _ _,ha⟩ ?_
 rintro n ⟨i,kk⟩ M2 ⟨rfl,hi,hkk,hoff,hcl⟩
 dsimp only at hi hkk hoff hcl⊢
 repeat' (first
  |(refine vl_pure rfl ?_)
  |(refine vl_nil ?_)
  |(refine VC.seq ?_)
  |(refine VC.regV ?_)
  |(refine seqQ_n ?_))
 refine VC.cond _ rfl (fun h=>?_) (fun h=>?_)
 ·have hi:i<xs.length:=by simpa using h
  obtain⟨x,gx⟩:∃x,xs[i]?=some x:=⟨_,List.getElem?_eq_getElem hi⟩
  obtain⟨hsl,hps⟩:=hcl
  obtain⟨b,o,rfl,c1⟩:=hsl.at2 (fun _=>rfl) (mid_get gx k)
  have hk1:=mkT_take (w:=wCS) gx k
  have hk2:=mkT_le (w:=wCS) wCS_nn xs k (i+1)
  have hk3:=mkT_ge (w:=wCS) wCS_nn (xs.take i) k
  have hwx:wCS x=7+6*x.c.pairs.length:=rfl
  repeat' (first
   |(refine vl_pure rfl ?_)
   |(refine VC.seq ?_)
   |(refine VC.regV ?_)
   |(refine vl_idx rfl rfl (by omega) ?_)
   |(refine VC.block ?_)
   |(refine VC.skip ?_))
  refine vl_sts ⟨⟨kk,x.c.kind,x.c.weak,x.c.last,x.c.born,x.c.color,x.c.to,x.c.pairs⟩,x.sa,x.cap⟩ hsl (fun _=>rfl) (mid_get gx k) (i:=i) (j:=0) rfl rfl rfl rfl (Nat.le_of_ble_eq_true rfl) rfl (fun M3 o3 s3=>?_)
  repeat' (first
   |(refine vl_add rfl rfl (by omega) ?_)
   |(refine vl_pure rfl ?_)
   |(refine vl_nil ?_)
   |(refine VC.seq ?_)
   |(refine VC.regV ?_)
   |(refine vl_idx rfl rfl (by omega) ?_))
  refine vl_sts ⟨⟨kk,kk+1,x.c.weak,x.c.last,x.c.born,x.c.color,x.c.to,x.c.pairs⟩,x.sa,x.cap⟩ s3 (fun _=>rfl) (set_get (mid_get gx k)) (i:=i) (j:=1) rfl rfl rfl rfl (Nat.le_of_ble_eq_true rfl) rfl (fun M4 o4 s4=>?_)
  rw[List.set_set]at s4
  repeat' (first
   |(refine vl_add rfl rfl (by omega) ?_)
   |(refine vl_pure rfl ?_)
   |(refine vl_nil ?_)
   |(refine VC.seq ?_)
   |(refine VC.regV ?_)
   |(refine vl_idx rfl rfl (by omega) ?_))
  refine vl_sts ⟨⟨kk,kk+1,kk+1+1,x.c.last,x.c.born,x.c.color,x.c.to,x.c.pairs⟩,x.sa,x.cap⟩ s4 (fun _=>rfl) (set_get (mid_get gx k)) (i:=i) (j:=2) rfl rfl rfl rfl (Nat.le_of_ble_eq_true rfl) rfl (fun M5 o5 s5=>?_)
  rw[List.set_set]at s5
  repeat' (first
   |(refine vl_add rfl rfl (by omega) ?_)
   |(refine vl_pure rfl ?_)
   |(refine vl_nil ?_)
   |(refine VC.seq ?_)
   |(refine VC.regV ?_)
   |(refine vl_idx rfl rfl (by omega) ?_))
  refine vl_sts ⟨⟨kk,kk+1,kk+1+1,kk+1+1+1,x.c.born,x.c.color,x.c.to,x.c.pairs⟩,x.sa,x.cap⟩ s5 (fun _=>rfl) (set_get (mid_get gx k)) (i:=i) (j:=3) rfl rfl rfl rfl (Nat.le_of_ble_eq_true rfl) rfl (fun M6 o6 s6=>?_)
  rw[List.set_set]at s6
  repeat' (first
   |(refine vl_add rfl rfl (by omega) ?_)
   |(refine vl_pure rfl ?_)
   |(refine vl_nil ?_)
   |(refine VC.seq ?_)
   |(refine VC.regV ?_)
   |(refine vl_idx rfl rfl (by omega) ?_))
  refine vl_sts ⟨⟨kk,kk+1,kk+1+1,kk+1+1+1,kk+1+1+1+1,x.c.color,x.c.to,x.c.pairs⟩,x.sa,x.cap⟩ s6 (fun _=>rfl) (set_get (mid_get gx k)) (i:=i) (j:=4) rfl rfl rfl rfl (Nat.le_of_ble_eq_true rfl) rfl (fun M7 o7 s7=>?_)
  rw[List.set_set]at s7
  repeat' (first
   |(refine vl_add rfl rfl (by omega) ?_)
   |(refine vl_pure rfl ?_)
   |(refine vl_nil ?_)
   |(refine VC.seq ?_)
   |(refine VC.regV ?_)
   |(refine vl_idx rfl rfl (by omega) ?_))
  refine vl_sts ⟨⟨kk,kk+1,kk+1+1,kk+1+1+1,kk+1+1+1+1,kk+1+1+1+1+1,x.c.to,x.c.pairs⟩,x.sa,x.cap⟩ s7 (fun _=>rfl) (set_get (mid_get gx k)) (i:=i) (j:=5) rfl rfl rfl rfl (Nat.le_of_ble_eq_true rfl) rfl (fun M8 o8 s8=>?_)
  rw[List.set_set]at s8
  repeat' (first
   |(refine vl_add rfl rfl (by omega) ?_)
   |(refine vl_pure rfl ?_)
   |(refine vl_nil ?_)
   |(refine VC.seq ?_)
   |(refine VC.regV ?_)
   |(refine vl_idx rfl rfl (by omega) ?_))
  refine vl_sts (hCS kk x) s8 (fun _=>rfl) (set_get (mid_get gx k)) (i:=i) (j:=6) rfl rfl rfl rfl (Nat.le_of_ble_eq_true rfl) rfl (fun M9 o9 s9=>?_)
  rw[List.set_set]at s9
  have oo:Off M2 b M9:=(((((o3.trans o4).trans o5).trans o6).trans o7).trans o8).trans o9
  obtain⟨b',o',e',c2⟩:=s9.at2 (fun _=>rfl) (set_get (mid_get gx k))
  cases e'
  have hnc:=(List.nodup_append.1 hnd)
  have hbo:own (.slice (some ⟨b,o,none⟩) xs.length ca)=[b]:=rfl
  have hbn:∀(j:Nat) (y:CS),(mkG gCS wCS k (xs.take i)++xs.drop i)[j]?=some y→b∉own y.s:=fun j y hj hm=>
   hnc.2.2 b (by rw[hbo];simp) b (by rw[←mid_own (xs:=xs) (i:=i) (k:=k)];exact List.mem_flatMap.2 ⟨y,List.mem_of_getElem? hj,hm⟩) rfl
  have hpx:Sl M9 6 pv x.s x.c.pairs:=(hps x (List.mem_of_getElem? (mid_get gx k))).off oo (hbn i x (mid_get gx k))
  have hT:=wP_T x.c.pairs (kk+1+1+1+1+1+1+1)
  have fp:cell M9 b (o+i*8+7)=some x.s:=cells_cell c2 (j:=7) rfl
  repeat' (first
   |(refine vl_add rfl rfl (by omega) ?_)
   |(refine vl_pure rfl ?_)
   |(refine vl_ld rfl (by first|exact fp) ?_)
   |(refine vl_nil ?_)
   |(refine VC.seq ?_)
   |(refine VC.regV ?_)
   |(refine vl_idx rfl rfl (by omega) ?_))
  refine vl_c rfl (markPairS_f (by omega) (by omega) hpx) (fun v M10 hq=>?_)
  obtain⟨rfl,o10,s10⟩:=hq
  repeat' (first
   |(refine xw ?_)
   |(refine seqQ_n ?_)
   |(fail))
  have hsub:∀c,c∈own x.s→c∈fpC (.slice (some ⟨b,o,none⟩) xs.length ca) xs:=fun c hc=>by
   unfold fpC;exact List.mem_append.2 (.inr (List.mem_flatMap.2 ⟨x,List.mem_of_getElem? gx,hc⟩))
  have hsl10:=s9.offL o10 (fun c hc hc'=>by
   rw[hbo]at hc;simp only[List.mem_singleton]at hc;subst hc
   exact hbn i x (mid_get gx k) hc')
  have hset:((mkG gCS wCS k (xs.take i)++xs.drop i).set i (hCS kk x)).map csv=(mkG gCS wCS k (xs.take (i+1))++xs.drop (i+1)).map csv:=by
   rw[←mid_set (g:=gCS) gx hkk rfl,List.map_set,List.map_set,csv_hCS]
  refine⟨_,(i+1,_),_,?_,⟨rfl,rfl,rfl,trivial⟩,Mem.le_refl _,rfl,hi,?_,?_,hsl10.congr hset,?_⟩
  ·dsimp only;omega
  ·dsimp only;rw[hT];omega
  ·exact(hoff.off oo (by simp[fpC,hbo])).trans (o10.mono hsub)
  ·intro y hy
   dsimp only at hy
   rw[←mid_set (g:=gCS) gx hkk rfl]at hy
   obtain⟨j,hj⟩:=List.mem_iff_getElem?.1 hy
   by_cases hji:j=i
   ·subst hji
    rw[set_get (mid_get gx k)]at hj
    cases hj
    rw[gCS_s];exact s10
   ·rw[List.getElem?_set_ne (by omega)]at hj
    have:=(hps y (List.mem_of_getElem? hj)).off oo (hbn j y hj)
    refine this.offL o10 (fun c hc hc'=>?_)
    have hnd2:((mkG gCS wCS k (xs.take i)++xs.drop i).flatMap fun(y:CS)=>own y.s).Nodup:=by rw[mid_own];exact hnc.2.1
    exact flat_apart hnd2 hj (mid_get gx k) hji c hc hc'
 ·have hi:¬i<xs.length:=by simpa using h
  repeat' (first
   |(refine xw ?_)
   |(fail))
  rw[List.drop_of_length_le (by omega),List.append_nil,List.take_of_length_le (by omega)]at hcl
  rw[List.take_of_length_le (by omega)]at hkk
  exact fnQ_r rfl (Mem.le_refl _) ⟨by rw[hkk],hoff,hcl⟩
theorem heldCellS_q{M:Mem}{va:Value}{xs:List CS}{k:Int}(h0:0≤k)(hb:mkT wCS k xs≤4611686018427387904)(hcl:CL M va (mkG gCS wCS k xs)):
 Qt Tryz.prog 68 [va,.int .i64 k] M (.int .i64 (mkT wCS k xs)):=by
 obtain⟨ha,hps⟩:=hcl
 obtain⟨aa,ca,ea⟩:=ha.len
 have hbd:=ha.bound
 rw[mkG_len]at ea hbd
 refine fn68 (by simp) ?_
 subst ea
 repeat' (first
  |(refine vl_pure rfl ?_)
  |(refine vl_nil ?_)
  |(refine VC.seq ?_)
  |(refine VC.regV ?_)
  |(refine VC.block ?_))
 refine VC.loop (α:=Nat×Int) (fun p=>[(0,.v (.slice aa xs.length ca)),(1,.v (.int .i64 p.2)),(5,.v (.int .i64 p.1))]) (fun n p M'=>n=xs.length-p.1∧p.1≤xs.length∧p.2=mkT wCS k (xs.take p.1)∧M'=M)
  ⟨_,(0,k),M,⟨rfl,rfl,rfl,trivial⟩,Mem.le_refl _,rfl,Nat.zero_le _,rfl,rfl⟩ ?_
 rintro n ⟨i,kk⟩ M2 ⟨rfl,hi,hkk,rfl⟩
 dsimp only at hi hkk⊢
 repeat' (first
  |(refine vl_pure rfl ?_)
  |(refine vl_nil ?_)
  |(refine VC.seq ?_)
  |(refine VC.regV ?_)
  |(refine seqQ_n ?_))
 refine VC.cond _ rfl (fun h=>?_) (fun h=>?_)
 ·have hi:i<xs.length:=by simpa using h
  obtain⟨x,gx⟩:∃x,xs[i]?=some x:=⟨_,List.getElem?_eq_getElem hi⟩
  have hgm:=List.mem_of_getElem? (mkG_get (g:=gCS) (w:=wCS) gx k)
  obtain⟨b,o,rfl,c1⟩:=ha.at2 (fun _=>rfl) (mkG_get gx k)
  rw[←hkk]at c1 hgm
  have hk1:=mkT_take (w:=wCS) gx k
  have hk2:=mkT_le (w:=wCS) wCS_nn xs k (i+1)
  have hk3:=mkT_ge (w:=wCS) wCS_nn (xs.take i) k
  have hwx:wCS x=7+6*x.c.pairs.length:=rfl
  have hT:=wP_T x.c.pairs (kk+1+1+1+1+1+1+1)
  have hp:=hps _ hgm
  have q:=heldPairS_q (k:=kk+1+1+1+1+1+1+1) (xs:=x.c.pairs) (by omega) (by omega) hp
  repeat' (first
   |(refine xw ?_)
   |(refine vl_ld rfl (by first|exact cells_cell c1 (j:=0) rfl|exact cells_cell c1 (j:=1) rfl|exact cells_cell c1 (j:=2) rfl|exact cells_cell c1 (j:=3) rfl|exact cells_cell c1 (j:=4) rfl|exact cells_cell c1 (j:=5) rfl|exact cells_cell c1 (j:=6) rfl|exact cells_cell c1 (j:=7) rfl) ?_)
   |(refine vl_cq rfl (q) ?_)
   |(refine seqQ_n ?_)
   |(refine seqQ_r ?_)
   |(refine blkQ_r ?_)
   |(refine VC.cond _ rfl (fun hb=>?_) (fun hb=>?_))
   |(fail))
  any_goals (simp[gCS,gC]at hb;done)
  any_goals (simp at hb;omega)
  refine⟨_,(i+1,_),_,?_,⟨rfl,rfl,rfl,trivial⟩,Mem.le_refl _,rfl,hi,?_,rfl⟩
  ·dsimp only;omega
  ·dsimp only;rw[hT];omega
 ·have hi:¬i<xs.length:=by simpa using h
  repeat' (first
   |(refine xw ?_)
   |(fail))
  rw[List.take_of_length_le (by omega)]at hkk
  exact fnQ_r rfl (Mem.le_refl _) ⟨by rw[hkk],rfl⟩
def gH(k:Int)(x:HS):HS:=
 ⟨{x.H with regs:=mkG gW wW k x.H.regs,cells:=mkG gC wC (mkT wW k x.H.regs) x.H.cells,gray:=mkG gI wI (mkT wC (mkT wW k x.H.regs) x.H.cells) x.H.gray},x.rs,x.cs,x.gs,mkG gCS wCS (mkT wW k x.H.regs) x.xs⟩
def endH(k:Int)(H:Heap):Int:=mkT wI (mkT wC (mkT wW k H.regs) H.cells) H.gray
theorem mkT_wC:∀(cs:List Cell) (k:Int),mkT wC k cs=k+7*cs.length+6*pairsN cs
 |[],k=>by simp[mkT,pairsN]
 |c::r,k=>by
  have e:pairsN (c::r)=c.pairs.length+pairsN r:=by simp[pairsN]
  simp only[mkT,List.length_cons,e];rw[mkT_wC r];simp only[wC,Int.natCast_add];omega
theorem endH_eq(k:Int)(H:Heap):endH k H=k+3*H.regs.length+7*H.cells.length+6*pairsN H.cells+H.gray.length:=by
 unfold endH
 rw[mkT_const (w:=wI) (c:=1) (fun _=>rfl),mkT_wC,mkT_const (w:=wW) (c:=3) (fun _=>rfl)];omega
theorem markHeap_f{M:Mem}{x:HS}{k:Int}(h0:0≤k)(hb:endH k x.H≤4611686018427387904)(hx:WHV M x):
 Fn Tryz.prog 21 [x.v,.int .i64 k] M (fun v M'=>v=.int .i64 (endH k x.H)∧OffL M x.fp M'∧RHV M' (gH k x)):=by
 have hp:=pairsN_nonneg x.H.cells
 have e0:=endH_eq k x.H
 have e1:=mkT_const (w:=wW) (c:=3) (fun _=>rfl) x.H.regs k
 have e2:=mkT_wC x.H.cells (mkT wW k x.H.regs)
 have e3:=mkT_const (w:=wI) (c:=1) (fun _=>rfl) x.H.gray (mkT wC (mkT wW k x.H.regs) x.H.cells)
 have e4:=mkT_wCS x.xs (mkT wW k x.H.regs)
 rw[hx.r.eq]at e4
 have hnd:=hx.nd
 simp only[HS.fp,List.nodup_append]at hnd
 obtain⟨_,⟨hn2,_,hn3⟩,hn1⟩:=hnd
 refine fn21 (by simp) ?_
 repeat' (first
  |(refine xw ?_)
  |(fail))
 refine vl_c rfl (markWordS_f h0 (by omega) hx.r.regs) (fun v M1 hq=>?_)
 obtain⟨rfl,o1,s1⟩:=hq
 repeat' (first
  |(refine xw ?_)
  |(fail))
 have c1:CL M1 x.cs x.xs:=⟨hx.r.cl.sl.offL o1 (fun b h h'=>hn1 b h' b (by simp[fpC,h]) rfl),fun y hy=>(hx.r.cl.ps y hy).offL o1 (fun b h h'=>hn1 b h' b (by
  simp only[fpC,List.mem_append,List.mem_flatMap];exact .inl (.inr ⟨y,hy,h⟩)) rfl)⟩
 have g1:=hx.r.gray.offL o1 (fun b h h'=>hn1 b h' b (by simp[h]) rfl)
 refine vl_c rfl (markCellS_f (k:=mkT wW k x.H.regs) (by omega) (by omega) c1 hn2) (fun v M2 hq=>?_)
 obtain⟨rfl,o2,s2⟩:=hq
 repeat' (first
  |(refine xw ?_)
  |(fail))
 have g2:=g1.offL o2 (fun b h h'=>hn3 b h' b h rfl)
 have r2:=s1.offL o2 (fun b h h'=>hn1 b h b (by simp[h']) rfl)
 rw[e4]
 refine vl_c rfl (markIntS_f (by omega) (by omega) g2) (fun v M3 hq=>?_)
 obtain⟨rfl,o3,s3⟩:=hq
 repeat' (first
  |(refine xw ?_)
  |(fail))
 refine fnQ_r rfl (Mem.le_refl _) ⟨rfl,?_,⟨r2.offL o3 (fun b h h'=>hn1 b h b (by simp[h']) rfl),⟨s2.sl.offL o3 (fun b h h'=>hn3 b (by simp[fpC,h]) b h' rfl),fun y hy=>(s2.ps y hy).offL o3 (fun b h h'=>hn3 b ?_ b h' rfl)⟩,?_,s3⟩⟩
 ·refine((o1.mono (fun b h=>?_)).trans (o2.mono (fun b h=>?_))).trans (o3.mono (fun b h=>?_))<;>simp[HS.fp,h]
 ·refine List.mem_append.2 (.inr ?_)
  rw[←mkG_own (k:=mkT wW k x.H.regs)]
  exact List.mem_flatMap.2 ⟨y,hy,h⟩
 ·show(mkG gCS wCS _ x.xs).map (·.c)=_
  rw[mkG_gCS_c,hx.r.eq];rfl
theorem heldHeap_q{M:Mem}{x:HS}{k:Int}(h0:0≤k)(hb:endH k x.H≤4611686018427387904)(he:x.xs.map (·.c)=x.H.cells)(hx:RHV M (gH k x)):
 Qt Tryz.prog 34 [(gH k x).v,.int .i64 k] M (.int .i64 (endH k x.H)):=by
 have hp:=pairsN_nonneg x.H.cells
 have e0:=endH_eq k x.H
 have e1:=mkT_const (w:=wW) (c:=3) (fun _=>rfl) x.H.regs k
 have e2:=mkT_wC x.H.cells (mkT wW k x.H.regs)
 have e3:=mkT_const (w:=wI) (c:=1) (fun _=>rfl) x.H.gray (mkT wC (mkT wW k x.H.regs) x.H.cells)
 have e4:=mkT_wCS x.xs (mkT wW k x.H.regs)
 rw[he]at e4
 have q1:=heldWordS_q h0 (by omega) hx.regs
 have q2:=heldCellS_q (k:=mkT wW k x.H.regs) (xs:=x.xs) (by omega) (by omega) hx.cl
 rw[e4]at q2
 have q3:=heldIntS_q (k:=mkT wC (mkT wW k x.H.regs) x.H.cells) (by omega) (by omega) hx.gray
 refine fn34 (by simp) ?_
 repeat' (first
  |(refine xw ?_)
  |(refine vl_cq rfl (q1) ?_)
  |(refine vl_cq rfl (q2) ?_)
  |(refine vl_cq rfl (q3) ?_)
  |(refine seqQ_n ?_)
  |(refine seqQ_r ?_)
  |(refine VC.cond _ rfl (fun hb=>?_) (fun hb=>?_))
  |(fail))
 any_goals (simp at hb;omega)
 exact fnQ_r rfl (Mem.le_refl _) (q_end rfl)
theorem heldHeap_q'{M:Mem}{x:HS}{k:Int}(h0:0≤k)(hb:endH k x.H≤4611686018427387904)(he:x.xs.map (·.c)=x.H.cells)(hx:RHV M (gH k x)):
 Qt Tryz.prog 34 [x.v,.int .i64 k] M (.int .i64 (endH k x.H)):=heldHeap_q h0 hb he hx
end Go.Proofs.YtpleoapljeffiaaGreatDoor.E
