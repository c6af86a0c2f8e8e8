/- A part of the proof. Conditions: none. -/
import Derived.Test.YtcjmodomfilagaaGreatKI14
set_option maxRecDepth 100000
set_option linter.unusedVariables false
namespace Go.Proofs.YtcjmodomfilagaaGreat.E
open Go
noncomputable def e31:Env:=⟨Tryz.prog,[1,5,7,8,10,25,49,56,71],75,[]⟩
abbrev qx(a0:Nat)(a1:Nat)(a2:Nat)(a3:Nat):I:=⟨none,none,.store a0 (.tmp a1) (.const (.slice none a2 a3))⟩
noncomputable def c31:C:=
 .seq (.reg [zZ 1 0,qg 2]) (.seq (.reg [zA 13 13 1,⟨some 3,none,.alloc false [.int .i64 0,.int .i64 0,.int .i64 0,.slice none 0 0,.slice none 0 0,.int .i64 0,.int .i64 0,.int .i64 0,.slice none 0 0,.int .i64 0,.int .i64 0,.int .i64 0,.int .i64 0]⟩,z8 13 3 13]) (.seq (.reg [z4 14 3 3,qx 1 14 0 0]) (.seq (.seq (.reg [z4 15 3 1,z5 16 1 15,zG 17 16,zC 18 0]) (.block 0 (.loop (.seq (.reg [zQ 19 18
 17]) (.seq (.cond (.tmp 19) .skip (.exit 0)) (.seq (.block 1 (.seq (.reg [z9 20 3 16 18,zA 21 3 20,zo 5 0 0 0,z8 3 5 21]) (.reg [z4 22 3 3,z5 23 1 22,zA 24 3 5,⟨some 25,none,.bslice true 1 3 [.int .i64 0,.int .i64 0,.int .i64 0] [(0,3,.tmp 24)]⟩,j9 26 3 24 0 0 0 23 25,z4 27 3 3,z8 1 27 26]))) (.reg [zN 28 18 1,z3 18 28]))))))) (.seq (.reg [z4 29 4 3,qx 1 29 0 0]) (.seq (.seq (.reg [z4 30 4 1,
 z5 31 1 30,zG 32 31,zC 33 0]) (.block 2 (.loop (.seq (.reg [zQ 34 33 32]) (.seq (.cond (.tmp 34) .skip (.exit 2)) (.seq (.block 3 (.seq (.reg [z9 35 8 31 33,zA 36 8 35,zX 7 0 0 0 0 0 0 0 0 0,z8 8 7 36]) (.seq (.reg [zA 37 8 7,zX 8 0 0 0 0 0 0 0 0 0,z8 8 8 37]) (.seq (.reg [z4 38 7 8,qx 1 38 0 0]) (.seq (.seq (.reg [z4 39 7 7,z5 40 1 39,zG 41 40,zC 42 0]) (.block 4 (.loop (.seq (.reg [zQ 43
 42 41]) (.seq (.cond (.tmp 43) .skip (.exit 4)) (.seq (.block 5 (.seq (.reg [z9 44 6 40 42,zA 45 6 44,zy 10 0 0 0 0 0 0,z8 6 10 45]) (.reg [z4 46 7 8,z5 47 1 46,zA 48 6 10,qv 49 1 6 0 0 0 0 0 0 0 6 48,qk 50 6 48 0 0 0 0 0 0 47 49,z4 51 7 8,z8 1 51 50]))) (.reg [zN 52 42 1,z3 42 52]))))))) (.reg [z4 53 4 3,z5 54 1 53,zA 55 8 8,jC 56 1 8 0 0 0 0 0 0 0 0 0 0 8 55,jD 57 8 80 0 0 0 0 0 0 0 0 0 54
 56,z4 58 4 3,z8 1 58 57])))))) (.reg [zN 59 33 1,z3 33 59]))))))) (.seq (.reg [z4 60 8 3,qx 1 60 0 0]) (.seq (.seq (.reg [z4 61 8 1,z5 62 1 61,zG 63 62,zC 64 0]) (.block 6 (.loop (.seq (.reg [zQ 65 64 63]) (.seq (.cond (.tmp 65) .skip (.exit 6)) (.seq (.block 7 (.seq (.reg [z9 66 1 62 64,z5 67 1 66,z3 12 67]) (.reg [z4 68 8 3,z5 69 1 68,z3 70 12,qc 71 1 1 0 0 1 70,qW 72 1 8 0 69 71,z4 73 8
 3,z8 1 73 72]))) (.reg [zN 74 64 1,z3 64 74]))))))) (.seq (.reg [z3 2 3]) .ret))))))))
theorem t31:Tryz.f31.body.bind (trC e31)=some c31:=by kernel_rfl
theorem r31:Tryz.f31.results.toList.mapM (trR Tryz.prog)=some [.tmp 2]:=by kernel_rfl
theorem fn31{args:List Value}{M:Mem}{post:Value→Mem→Prop}(hl:args.length≤75)(h:VC e31 c31 (fnQ [.tmp 2] post) (initS args 75) M):Fn Tryz.prog 31 args M post:=
 Fn.of' (E:=e31) Tryz.func31 t31 rfl r31 mixed hl h
noncomputable def e132:Env:=⟨Tryz.prog,[],15,[]⟩
noncomputable def c132:C:=
 .seq (.reg [zL 2]) (.seq (.reg [z3 3 0,z6 4 3,z4 5 5 4,z5 6 1 5,z7 7 6 1,z3 8 7,zP 9 8 0,zY 10 8 9,zI 11 8 5 10,zK 12 8 1 11,q0 13 8 12 2,zO 14 8 13,z3 2 14]) .ret)
theorem t132:Tryz.f132.body.bind (trC e132)=some c132:=by kernel_rfl
theorem r132:Tryz.f132.results.toList.mapM (trR Tryz.prog)=some [.tmp 2]:=by kernel_rfl
theorem fn132{args:List Value}{M:Mem}{post:Value→Mem→Prop}(hl:args.length≤15)(h:VC e132 c132 (fnQ [.tmp 2] post) (initS args 15) M):Fn Tryz.prog 132 args M post:=
 Fn.of' (E:=e132) Tryz.func132 t132 rfl r132 mixed hl h
noncomputable def e128:Env:=⟨Tryz.prog,[3,40],44,[(1,20),(3,8),(4,8)]⟩
noncomputable def c128:C:=
 .seq (.reg [zZ 3 1,zL 4]) (.seq (.seq (.dreg 20 [z3 5 0,qX 6 132 5,zV 7 6,z3 8 7,zI 9 8 0 3,zK 10 8 1 9,zx 11 8 10 2,zO 12 8 11,z3 13 12,zP 14 13 0,zY 15 13 14,zI 16 13 4 15,zK 17 13 1 16,zI 18 13 2 3,zK 19 13 1 18,qF 20 13 8 17 19,zI 21 13 5 20,zK 22 13 1 21,zx 23 13 22 0,zO 24 13 23]) (.cond (.tmp 24) (.seq (.reg [zL 4]) .ret) .skip)) (.seq (.dreg 8 [z3 25 0,z6 26 25,z4 27 4 26,z5 28 1 27,
 z4 29 2 3,z5 30 1 29,z9 31 8 28 30,z4 32 5 31,qH 1 32 1]) (.seq (.dreg 8 [z3 33 0,z3 34 0,z6 35 34,z4 36 8 35,z5 37 1 36,z4 38 2 3,z5 39 1 38,qc 40 1 1 0 0 1 39,qW 41 1 8 0 37 40,z6 42 33,z4 43 8 42,z8 1 43 41]) (.seq (.reg [ze 4]) .ret))))
theorem t128:Tryz.f128.body.bind (trC e128)=some c128:=by kernel_rfl
theorem r128:Tryz.f128.results.toList.mapM (trR Tryz.prog)=some [.tmp 4]:=by kernel_rfl
theorem fn128{args:List Value}{M:Mem}{post:Value→Mem→Prop}(hl:args.length≤44)(h:VC e128 c128 (fnQ [.tmp 4] post) (initS args 44) M):Fn Tryz.prog 128 args M post:=
 Fn.of' (E:=e128) Tryz.func128 t128 rfl r128 mixed hl h
noncomputable def e99:Env:=⟨Tryz.prog,[],17,[]⟩
noncomputable def c99:C:=
 .seq (.reg [z3 6 0,z3 7 1,z6 8 6,z4 9 5 8,z8 1 9 7]) (.seq (.reg [z3 10 0,z3 11 2,z6 12 10,z4 13 6 12,z8 1 13 11]) (.reg [z3 14 0,z6 15 14,z4 16 7 15,qH 1 16 0]))
theorem t99:Tryz.f99.body.bind (trC e99)=some c99:=by kernel_rfl
theorem r99:Tryz.f99.results.toList.mapM (trR Tryz.prog)=some []:=by kernel_rfl
theorem fn99{args:List Value}{M:Mem}{post:Value→Mem→Prop}(hl:args.length≤17)(h:VC e99 c99 (fnQ [] post) (initS args 17) M):Fn Tryz.prog 99 args M post:=
 Fn.of' (E:=e99) Tryz.func99 t99 rfl r99 mixed hl h
noncomputable def e60:Env:=⟨Tryz.prog,[],4,[]⟩
noncomputable def c60:C:=
 .reg [z3 2 0,qL 3 99 2 1 0]
theorem t60:Tryz.f60.body.bind (trC e60)=some c60:=by kernel_rfl
theorem r60:Tryz.f60.results.toList.mapM (trR Tryz.prog)=some []:=by kernel_rfl
theorem fn60{args:List Value}{M:Mem}{post:Value→Mem→Prop}(hl:args.length≤4)(h:VC e60 c60 (fnQ [] post) (initS args 4) M):Fn Tryz.prog 60 args M post:=
 Fn.of' (E:=e60) Tryz.func60 t60 rfl r60 mixed hl h
noncomputable def e61:Env:=⟨Tryz.prog,[],30,[]⟩
noncomputable def c61:C:=
 .seq (.reg [z3 2 0,z6 3 2,z4 4 5 3,z5 5 1 4]) (.block 0 (.seq (.reg [z7 7 5 1,z3 6 7]) (.cond (.tmp 6) (.reg [z3 8 0,zM 9 100 8]) (.seq (.reg [z7 11 5 2,z3 10 11]) (.cond (.tmp 10) (.reg [z3 12 0,zM 13 101 12]) (.seq (.reg [z7 15 5 3,z3 14 15]) (.cond (.tmp 14) (.reg [z3 16 0,zM 17 102 16]) (.seq (.reg [z7 19 5 4,z3 18 19]) (.cond (.tmp 18) (.reg [z3 20 0,zM 21 103 20]) (.seq (.reg [z7
 23 5 5,z3 22 23]) (.cond (.tmp 22) (.reg [z3 24 0,zM 25 104 24]) (.seq (.reg [z7 27 5 6,z3 26 27]) (.cond (.tmp 26) (.reg [z3 28 0,zM 29 105 28]) .skip)))))))))))))
theorem t61:Tryz.f61.body.bind (trC e61)=some c61:=by kernel_rfl
theorem r61:Tryz.f61.results.toList.mapM (trR Tryz.prog)=some []:=by kernel_rfl
theorem fn61{args:List Value}{M:Mem}{post:Value→Mem→Prop}(hl:args.length≤30)(h:VC e61 c61 (fnQ [] post) (initS args 30) M):Fn Tryz.prog 61 args M post:=
 Fn.of' (E:=e61) Tryz.func61 t61 rfl r61 mixed hl h
noncomputable def e100:Env:=⟨Tryz.prog,[2],47,[(0,10),(2,11)]⟩
noncomputable def c100:C:=
 .seq (.seq (.dreg 10 [z3 3 0,z6 4 3,z4 5 6 4,z5 6 1 5,z3 7 0,z6 8 7,z4 9 4 8,z5 10 1 9,zG 11 10,qA 12 6 11]) (.cond (.tmp 12) (.seq (.reg [z3 13 0,qL 14 99 13 2 0]) .ret) .skip)) (.seq (.dreg 11 [z3 15 0,z6 16 15,z4 17 4 16,z5 18 1 17,z3 19 0,z6 20 19,z4 21 6 20,z5 22 1 21,z9 23 8 18 22,zA 24 8 23,zX 2 0 0 0 0 0 0 0 0 0,z8 8 2 24]) (.seq (.seq (.reg [z4 25 3 2,z5 26 1 25,z7 27 26 1,z3 28 27,
 zI 29 28 3 2,zK 30 28 1 29,q0 31 28 30 2,zO 32 28 31]) (.cond (.tmp 32) (.reg [z3 33 0,z3 34 0,z6 35 34,z4 36 6 35,z5 37 1 36,qE 38 0 0 0 0 1 2 2 1 37,zU 39 128 33 38]) .skip)) (.reg [z3 40 0,z6 41 40,z4 42 6 41,z5 43 1 42,zN 44 43 1,z6 45 40,z4 46 6 45,z8 1 46 44])))
theorem t100:Tryz.f100.body.bind (trC e100)=some c100:=by kernel_rfl
theorem r100:Tryz.f100.results.toList.mapM (trR Tryz.prog)=some []:=by kernel_rfl
theorem fn100{args:List Value}{M:Mem}{post:Value→Mem→Prop}(hl:args.length≤47)(h:VC e100 c100 (fnQ [] post) (initS args 47) M):Fn Tryz.prog 100 args M post:=
 Fn.of' (E:=e100) Tryz.func100 t100 rfl r100 mixed hl h
noncomputable def e101:Env:=⟨Tryz.prog,[3,6],97,[(2,14),(3,15)]⟩
noncomputable def c101:C:=
 .seq (.seq (.reg [z3 7 0,z6 8 7,z4 9 8 8,z5 10 1 9,zG 11 10,zz 12 11 0]) (.cond (.tmp 12) (.seq (.reg [z3 13 0,z6 14 13,z4 15 8 14,z5 16 1 15,qh 17 1 16 0,z5 18 1 17,z3 2 18]) (.seq (.seq (.dreg 14 [z3 19 0,z6 20 19,z4 21 7 20,z5 22 1 21,z3 23 0,z6 24 23,z4 25 4 24,z5 26 1 25,z3 27 2,z9 28 8 26 27,z4 29 7 28,z5 30 1 29,zG 31 30,zQ 32 22 31]) (.cond (.tmp 32) (.seq (.dreg 15 [z3 33 0,z6 34 33,
 z4 35 4 34,z5 36 1 35,z3 37 2,z9 38 8 36 37,z4 39 7 38,z5 40 1 39,z3 41 0,z6 42 41,z4 43 7 42,z5 44 1 43,z9 45 6 40 44,zA 46 6 45,zy 3 0 0 0 0 0 0,z8 6 3 46]) (.seq (.reg [z3 47 0,z6 48 47,z4 49 7 48,z5 50 1 49,zN 51 50 1,z6 52 47,z4 53 7 52,z8 1 53 51]) (.seq (.reg [z3 54 0,z4 55 0 3,zA 56 3 55,zU 57 128 54 56]) (.seq (.reg [z3 58 0,z4 59 3 3,zA 60 3 59,zU 61 128 58 60]) .ret)))) .skip))
 (.seq (.reg [z3 62 0,z6 63 62,z4 64 4 63,z5 65 1 64,z3 66 2,z9 67 8 65 66,z4 68 5 67,qH 1 68 2]) (.seq (.reg [z3 69 0,z3 70 0,z6 71 70,z4 72 8 71,z5 73 1 72,⟨some 74,none,.slc 1 (.tmp 73) (some (.const (.int .i64 1))) none⟩,z6 75 69,z4 76 8 75,z8 1 76 74]) (.seq (.reg [z3 77 0,z6 78 77,z4 79 7 78,qH 1 79 0]) .ret))))) .skip)) (.seq (.reg [zL 4]) (.seq (.seq (.reg [z3 80 0,z6 81 80,z4 82 3 81,
 z5 83 1 82,zG 84 83,zC 85 0]) (.block 0 (.loop (.seq (.reg [zQ 86 85 84]) (.seq (.cond (.tmp 86) .skip (.exit 0)) (.seq (.block 1 (.seq (.reg [z9 87 3 83 85,zA 88 3 87,zo 6 0 0 0,z8 3 6 88]) (.seq (.reg [z3 89 0,zA 90 3 6,zU 91 128 89 90]) (.cond (.tmp 91) (.reg [ze 4]) .skip)))) (.reg [zN 92 85 1,z3 85 92]))))))) (.seq (.reg [z3 93 4,zV 94 93]) (.cond (.tmp 94) (.reg [z3 95 0,qL 96 99 95
 3 0]) .skip))))
theorem t101:Tryz.f101.body.bind (trC e101)=some c101:=by kernel_rfl
theorem r101:Tryz.f101.results.toList.mapM (trR Tryz.prog)=some []:=by kernel_rfl
theorem fn101{args:List Value}{M:Mem}{post:Value→Mem→Prop}(hl:args.length≤97)(h:VC e101 c101 (fnQ [] post) (initS args 97) M):Fn Tryz.prog 101 args M post:=
 Fn.of' (E:=e101) Tryz.func101 t101 rfl r101 mixed hl h
noncomputable def e102:Env:=⟨Tryz.prog,[2],71,[(0,10),(2,11),(4,11),(5,10),(6,10)]⟩
noncomputable def c102:C:=
 .seq (.seq (.dreg 10 [z3 3 0,z6 4 3,z4 5 6 4,z5 6 1 5,z3 7 0,z6 8 7,z4 9 4 8,z5 10 1 9,zG 11 10,qA 12 6 11]) (.cond (.tmp 12) (.seq (.reg [z3 13 0,qL 14 99 13 4 0]) .ret) .skip)) (.seq (.dreg 11 [z3 15 0,z6 16 15,z4 17 4 16,z5 18 1 17,z3 19 0,z6 20 19,z4 21 6 20,z5 22 1 21,z9 23 8 18 22,zA 24 8 23,zX 2 0 0 0 0 0 0 0 0 0,z8 8 2 24]) (.seq (.seq (.reg [z4 25 0 2,z5 26 1 25,z7 27 26 1,z3 28 27,
 zE 29 28 5 2,zD 30 28 1 29,zW 31 28 30 0,zJ 32 28 31]) (.cond (.tmp 32) (.seq (.dreg 11 [z3 33 0,z6 34 33,z4 35 1 34,z5 36 1 35,z4 37 7 2,z5 38 1 37,zG 39 38,zi 40 1 39,⟨some 41,none,.bin .sub (.tmp 36) (.tmp 40)⟩,z6 42 33,z4 43 1 42,z8 1 43 41]) (.dreg 10 [z3 44 0,z6 45 44,z4 46 4 45,z5 47 1 46,z3 48 0,z6 49 48,z4 50 6 49,z5 51 1 50,⟨some 52,none,.build [.int .i64 0,.int .i64 0,.int .i64 0,
 .int .i64 0,.int .i64 0,.int .i64 0,.int .i64 0,.slice none 0 0] []⟩,z9 53 8 47 51,z8 8 53 52])) (.dreg 10 [z3 54 0,z6 55 54,z4 56 4 55,z5 57 1 56,z3 58 0,z6 59 58,z4 60 6 59,z5 61 1 60,z9 62 8 57 61,z4 63 5 62,qH 1 63 0]))) (.reg [z3 64 0,z6 65 64,z4 66 6 65,z5 67 1 66,zN 68 67 1,z6 69 64,z4 70 6 69,z8 1 70 68])))
theorem t102:Tryz.f102.body.bind (trC e102)=some c102:=by kernel_rfl
theorem r102:Tryz.f102.results.toList.mapM (trR Tryz.prog)=some []:=by kernel_rfl
theorem fn102{args:List Value}{M:Mem}{post:Value→Mem→Prop}(hl:args.length≤71)(h:VC e102 c102 (fnQ [] post) (initS args 71) M):Fn Tryz.prog 102 args M post:=
 Fn.of' (E:=e102) Tryz.func102 t102 rfl r102 mixed hl h
noncomputable def e129:Env:=⟨Tryz.prog,[4],25,[]⟩
noncomputable def c129:C:=
 .seq (.reg [zC 2 0]) (.seq (.seq (.reg [z3 5 0,z6 6 5,z4 7 4 6,z5 8 1 7,zG 9 8,zC 10 0]) (.block 0 (.loop (.seq (.reg [zQ 11 10 9]) (.seq (.cond (.tmp 11) .skip (.exit 0)) (.seq (.block 1 (.seq (.reg [z3 12 10,z9 13 8 8 10,zA 14 8 13,zX 4 0 0 0 0 0 0 0 0 0,z3 3 12,z8 8 4 14]) (.seq (.reg [z4 15 0 4,z5 16 1 15,z7 17 16 0]) (.cond (.tmp 17) (.seq (.reg [z3 18 3,z3 2 18]) .ret) .skip)))) (.reg
 [zN 19 10 1,z3 10 19]))))))) (.seq (.reg [z3 20 0,z6 21 20,z4 22 4 21,z5 23 1 22,zG 24 23,z3 2 24]) .ret))
theorem t129:Tryz.f129.body.bind (trC e129)=some c129:=by kernel_rfl
theorem r129:Tryz.f129.results.toList.mapM (trR Tryz.prog)=some [.tmp 2]:=by kernel_rfl
theorem fn129{args:List Value}{M:Mem}{post:Value→Mem→Prop}(hl:args.length≤25)(h:VC e129 c129 (fnQ [.tmp 2] post) (initS args 25) M):Fn Tryz.prog 129 args M post:=
 Fn.of' (E:=e129) Tryz.func129 t129 rfl r129 mixed hl h
noncomputable def e103:Env:=⟨Tryz.prog,[],78,[(6,13),(11,15)]⟩
noncomputable def c103:C:=
 .seq (.reg [z3 5 0,zM 6 129 5,z3 2 6]) (.seq (.reg [z3 7 0,z6 8 7,z4 9 4 8,z5 10 1 9,zG 11 10,za 12 11 1,z3 3 12]) (.seq (.block 0 (.loop (.seq (.seq (.reg [z3 13 3,qb 14 13 0,z3 15 14,zF 16 15 0,zR 17 15 16,zE 18 15 4 17,zD 19 15 1 18,zF 20 15 3,zj 21 15 8 19 20,zE 22 15 0 21,zD 23 15 1 22,qG 24 15 23 1,zJ 25 15 24]) (.cond (.tmp 25) .skip (.exit 0))) (.block 1 (.reg [z3 26 3,za 27 26 1,z3 3
 27]))))) (.seq (.seq (.reg [z3 28 2,z3 29 3,qo 30 28 29]) (.cond (.tmp 30) (.seq (.reg [z3 31 0,qL 32 99 31 5 0]) .ret) .skip)) (.seq (.dreg 13 [z3 33 0,z6 34 33,z4 35 4 34,z5 36 1 35,z3 37 2,z3 38 0,z6 39 38,z4 40 4 39,z5 41 1 40,z3 42 3,z9 43 8 41 42,zA 44 8 43,z9 45 8 36 37,z8 8 45 44]) (.seq (.reg [z3 46 0,z6 47 46,z4 48 4 47,z5 49 1 48,z3 50 3,z3 51 2,⟨some 52,none,.build [.int .i64 0,
 .int .i64 0,.int .i64 0,.int .i64 0,.int .i64 0,.int .i64 0,.int .i64 0,.slice none 0 0] [(0,1,.const (.int .i64 2)),(6,1,.tmp 51)]⟩,z9 53 8 49 50,z8 8 53 52]) (.seq (.reg [z3 54 0,z6 55 54,z4 56 3 55,z5 57 1 56,zG 58 57,zC 59 0]) (.block 2 (.loop (.seq (.reg [zQ 60 59 58]) (.seq (.cond (.tmp 60) .skip (.exit 2)) (.seq (.block 3 (.seq (.reg [z3 61 59,z3 4 61]) (.dreg 15 [z3 62 0,z6 63 62,z4
 64 3 63,z5 65 1 64,z3 66 4,z3 67 0,z3 68 0,z6 69 68,z4 70 3 69,z5 71 1 70,z3 72 4,z9 73 3 71 72,zA 74 3 73,qi 75 122 67 74,z9 76 3 65 66,z8 3 76 75]))) (.reg [zN 77 59 1,z3 59 77]))))))))))))
theorem t103:Tryz.f103.body.bind (trC e103)=some c103:=by kernel_rfl
theorem r103:Tryz.f103.results.toList.mapM (trR Tryz.prog)=some []:=by kernel_rfl
theorem fn103{args:List Value}{M:Mem}{post:Value→Mem→Prop}(hl:args.length≤78)(h:VC e103 c103 (fnQ [] post) (initS args 78) M):Fn Tryz.prog 103 args M post:=
 Fn.of' (E:=e103) Tryz.func103 t103 rfl r103 mixed hl h
noncomputable def e104:Env:=⟨Tryz.prog,[2],98,[(0,10),(2,17),(3,18),(6,17)]⟩
noncomputable def c104:C:=
 .seq (.seq (.dreg 10 [z3 3 0,z6 4 3,z4 5 6 4,z5 6 1 5,z3 7 0,z6 8 7,z4 9 4 8,z5 10 1 9,zG 11 10,qA 12 6 11]) (.cond (.tmp 12) (.seq (.reg [z3 13 0,z3 14 0,z6 15 14,z4 16 4 15,z5 17 1 16,zG 18 17,j5 19 99 13 6 18]) .ret) .skip)) (.seq (.seq (.dreg 17 [z3 20 0,z6 21 20,z4 22 7 21,z5 23 1 22,z3 24 0,z6 25 24,z4 26 4 25,z5 27 1 26,z3 28 0,z6 29 28,z4 30 6 29,z5 31 1 30,z9 32 8 27 31,z4 33 7 32,z5
 34 1 33,zG 35 34,zQ 36 23 35]) (.cond (.tmp 36) (.seq (.dreg 18 [z3 37 0,z6 38 37,z4 39 4 38,z5 40 1 39,z3 41 0,z6 42 41,z4 43 6 42,z5 44 1 43,z9 45 8 40 44,z4 46 7 45,z5 47 1 46,z3 48 0,z6 49 48,z4 50 7 49,z5 51 1 50,z9 52 6 47 51,zA 53 6 52,zy 2 0 0 0 0 0 0,z8 6 2 53]) (.seq (.reg [z3 54 0,z4 55 0 2,zA 56 3 55,zU 57 122 54 56,z4 58 0 2,z8 3 58 57]) (.seq (.reg [z3 59 0,z4 60 3 2,zA 61 3 60,
 zU 62 122 59 61,z4 63 3 2,z8 3 63 62]) (.seq (.dreg 17 [z3 64 0,z6 65 64,z4 66 4 65,z5 67 1 66,z3 68 0,z6 69 68,z4 70 6 69,z5 71 1 70,z9 72 8 67 71,z4 73 7 72,z5 74 1 73,z3 75 0,z6 76 75,z4 77 7 76,z5 78 1 77,zA 79 6 2,z9 80 6 74 78,z8 6 80 79]) (.seq (.reg [z3 81 0,z6 82 81,z4 83 7 82,z5 84 1 83,zN 85 84 1,z6 86 81,z4 87 7 86,z8 1 87 85]) .ret))))) .skip)) (.seq (.reg [z3 88 0,z6 89 88,z4 90
 6 89,z5 91 1 90,zN 92 91 1,z6 93 88,z4 94 6 93,z8 1 94 92]) (.reg [z3 95 0,z6 96 95,z4 97 7 96,qH 1 97 0])))
theorem t104:Tryz.f104.body.bind (trC e104)=some c104:=by kernel_rfl
theorem r104:Tryz.f104.results.toList.mapM (trR Tryz.prog)=some []:=by kernel_rfl
theorem fn104{args:List Value}{M:Mem}{post:Value→Mem→Prop}(hl:args.length≤98)(h:VC e104 c104 (fnQ [] post) (initS args 98) M):Fn Tryz.prog 104 args M post:=
 Fn.of' (E:=e104) Tryz.func104 t104 rfl r104 mixed hl h
noncomputable def e105:Env:=⟨Tryz.prog,[],87,[(5,12),(6,10),(7,25),(8,12)]⟩
noncomputable def c105:C:=
 .seq (.seq (.reg [z3 2 0,z6 3 2,z4 4 6 3,z5 5 1 4,z7 6 5 0]) (.cond (.tmp 6) (.seq (.reg [z3 7 0,qL 8 99 7 0 0]) (.seq (.seq (.reg [z3 9 0,z6 10 9,z4 11 11 10,z5 12 1 11,qP 13 12 1000000000]) (.cond (.tmp 13) (.reg [z3 14 0,z6 15 14,z4 16 11 15,z5 17 1 16,zN 18 17 1,z6 19 14,z4 20 11 19,z8 1 20 18]) .skip)) .ret)) .skip)) (.seq (.reg [z3 21 0,z6 22 21,z4 23 6 22,z5 24 1 23,za 25 24 1,z6 26
 21,z4 27 6 26,z8 1 27 25]) (.seq (.seq (.dreg 12 [z3 28 0,z6 29 28,z4 30 4 29,z5 31 1 30,z3 32 0,z6 33 32,z4 34 6 33,z5 35 1 34,z9 36 8 31 35,z4 37 0 36,z5 38 1 37,z7 39 38 2]) (.cond (.tmp 39) (.dreg 10 [z3 40 0,z6 41 40,z4 42 4 41,z5 43 1 42,z3 44 0,z6 45 44,z4 46 6 45,z5 47 1 46,⟨some 48,none,.build [.int .i64 0,.int .i64 0,.int .i64 0,.int .i64 0,.int .i64 0,.int .i64 0,.int .i64 0,.slice
 none 0 0] []⟩,z9 49 8 43 47,z8 8 49 48]) .skip)) (.seq (.dreg 25 [z3 50 0,z6 51 50,z4 52 6 51,z5 53 1 52,z3 54 0,z6 55 54,z4 56 4 55,z5 57 1 56,zG 58 57,za 59 58 1,qA 60 53 59,z3 61 60,zF 62 61 0,zR 63 61 62,zE 64 61 4 63,zD 65 61 1 64,zF 66 61 0,zR 67 61 66,zE 68 61 6 67,zD 69 61 1 68,zj 70 61 8 65 69,zE 71 61 0 70,zD 72 61 1 71,zW 73 61 72 0,zJ 74 61 73]) (.cond (.tmp 74) (.dreg 12 [z3 75 0,
 z3 76 0,z6 77 76,z4 78 4 77,z5 79 1 78,z3 80 0,z6 81 80,z4 82 6 81,z5 83 1 82,qt 84 8 79 83,z6 85 75,z4 86 4 85,z8 1 86 84]) .skip))))
theorem t105:Tryz.f105.body.bind (trC e105)=some c105:=by kernel_rfl
theorem r105:Tryz.f105.results.toList.mapM (trR Tryz.prog)=some []:=by kernel_rfl
theorem fn105{args:List Value}{M:Mem}{post:Value→Mem→Prop}(hl:args.length≤87)(h:VC e105 c105 (fnQ [] post) (initS args 87) M):Fn Tryz.prog 105 args M post:=
 Fn.of' (E:=e105) Tryz.func105 t105 rfl r105 mixed hl h
noncomputable def e50:Env:=⟨Tryz.prog,[],30,[]⟩
noncomputable def c50:C:=
 .seq (.reg [zC 4 0]) (.seq (.seq (.reg [z3 6 1,z7 7 6 0]) (.cond (.tmp 7) (.seq (.reg [zC 4 0]) .ret) .skip)) (.seq (.seq (.reg [z3 8 0,z6 9 8,z4 10 5 9,z5 11 1 10,z7 12 11 0]) (.cond (.tmp 12) (.reg [z3 13 0,zM 14 60 13]) .skip)) (.seq (.reg [zC 5 0]) (.seq (.block 0 (.loop (.seq (.seq (.reg [z3 15 5,z3 16 1,zQ 17 15 16,z3 18 17,zF 19 18 0,zR 20 18 19,zE 21 18 5 20,zD 22 18 1 21,qG 23 18
 22 0,zJ 24 18 23]) (.cond (.tmp 24) .skip (.exit 0))) (.block 1 (.seq (.reg [z3 25 0,zM 26 61 25]) (.reg [z3 27 5,zN 28 27 1,z3 5 28])))))) (.seq (.reg [z3 29 5,z3 4 29]) .ret)))))
theorem t50:Tryz.f50.body.bind (trC e50)=some c50:=by kernel_rfl
theorem r50:Tryz.f50.results.toList.mapM (trR Tryz.prog)=some [.tmp 4]:=by kernel_rfl
theorem fn50{args:List Value}{M:Mem}{post:Value→Mem→Prop}(hl:args.length≤30)(h:VC e50 c50 (fnQ [.tmp 4] post) (initS args 30) M):Fn Tryz.prog 50 args M post:=
 Fn.of' (E:=e50) Tryz.func50 t50 rfl r50 mixed hl h
noncomputable def e52:Env:=⟨Tryz.prog,[],14,[]⟩
noncomputable def c52:C:=
 .seq (.reg [zC 2 0]) (.seq (.reg [zC 3 0]) (.seq (.block 0 (.loop (.seq (.seq (.reg [z3 4 0,z6 5 4,z4 6 5 5,z5 7 1 6,zk 8 7 0]) (.cond (.tmp 8) .skip (.exit 0))) (.block 1 (.seq (.reg [z3 9 0,zM 10 61 9]) (.reg [z3 11 3,zN 12 11 1,z3 3 12])))))) (.seq (.reg [z3 13 3,z3 2 13]) .ret)))
theorem t52:Tryz.f52.body.bind (trC e52)=some c52:=by kernel_rfl
theorem r52:Tryz.f52.results.toList.mapM (trR Tryz.prog)=some [.tmp 2]:=by kernel_rfl
theorem fn52{args:List Value}{M:Mem}{post:Value→Mem→Prop}(hl:args.length≤14)(h:VC e52 c52 (fnQ [.tmp 2] post) (initS args 14) M):Fn Tryz.prog 52 args M post:=
 Fn.of' (E:=e52) Tryz.func52 t52 rfl r52 mixed hl h
noncomputable def e55:Env:=⟨Tryz.prog,[],8,[]⟩
noncomputable def c55:C:=
 .seq (.reg [z3 2 0,zM 3 52 2]) (.seq (.reg [z3 4 0,zM 5 60 4]) (.reg [z3 6 0,zM 7 52 6]))
theorem t55:Tryz.f55.body.bind (trC e55)=some c55:=by kernel_rfl
theorem r55:Tryz.f55.results.toList.mapM (trR Tryz.prog)=some []:=by kernel_rfl
theorem fn55{args:List Value}{M:Mem}{post:Value→Mem→Prop}(hl:args.length≤8)(h:VC e55 c55 (fnQ [] post) (initS args 8) M):Fn Tryz.prog 55 args M post:=
 Fn.of' (E:=e55) Tryz.func55 t55 rfl r55 mixed hl h
noncomputable def e79:Env:=⟨Tryz.prog,[8,28],65,[]⟩
noncomputable def c79:C:=
 .seq (.reg [zp 6 0 0]) (.seq (.seq (.reg [z3 9 0,z6 10 9,z4 11 4 10,z5 12 1 11,z3 13 1,z9 14 8 12 13,z4 15 7 14,z5 16 1 15,zG 17 16,zC 18 0]) (.block 0 (.loop (.seq (.reg [zQ 19 18 17]) (.seq (.cond (.tmp 19) .skip (.exit 0)) (.seq (.block 1 (.seq (.reg [z3 20 18,z9 21 6 16 18,zA 22 6 21,zy 8 0 0 0 0 0 0,z3 7 20,z8 6 8 22]) (.seq (.reg [z3 23 7,z3 24 2,qD 25 23 24]) (.cond (.tmp 25) (.reg [
 z3 26 6,zA 27 6 8,qv 28 1 6 0 0 0 0 0 0 0 6 27,qk 29 6 48 0 0 0 0 0 0 26 28,z3 6 29]) .skip)))) (.reg [zN 30 18 1,z3 18 30]))))))) (.seq (.reg [z3 31 0,z6 32 31,z4 33 4 32,z5 34 1 33,z3 35 1,z3 36 6,z9 37 8 34 35,z4 38 7 37,z8 1 38 36]) (.seq (.reg [z3 39 0,z6 40 39,z4 41 1 40,z5 42 1 41,za 43 42 1,z6 44 39,z4 45 1 44,z8 1 45 43]) (.seq (.reg [z3 46 2,z3 47 0,z6 48 47,z4 49 7 48,z5 50 1 49,zQ
 51 46 50,z3 52 51,zF 53 52 0,⟨some 54,some (52,true),.call 123 [.tmp 53]⟩,zF 55 52 1,qC 56 52 54 55,zJ 57 52 56]) (.cond (.tmp 57) (.reg [z3 58 0,z6 59 58,z4 60 7 59,z5 61 1 60,za 62 61 1,z6 63 58,z4 64 7 63,z8 1 64 62]) .skip)))))
theorem t79:Tryz.f79.body.bind (trC e79)=some c79:=by kernel_rfl
theorem r79:Tryz.f79.results.toList.mapM (trR Tryz.prog)=some []:=by kernel_rfl
theorem fn79{args:List Value}{M:Mem}{post:Value→Mem→Prop}(hl:args.length≤65)(h:VC e79 c79 (fnQ [] post) (initS args 65) M):Fn Tryz.prog 79 args M post:=
 Fn.of' (E:=e79) Tryz.func79 t79 rfl r79 mixed hl h
noncomputable def e123:Env:=⟨Tryz.prog,[],43,[(3,17)]⟩
noncomputable def c123:C:=
 .seq (.reg [zC 2 0]) (.seq (.seq (.reg [z3 3 0,z6 4 3,z4 5 5 4,z5 6 1 5,z7 7 6 2,z3 8 7,zF 9 8 0,zR 10 8 9,zE 11 8 8 10,zD 12 8 1 11,zq 13 8 12,qa 14 8 13 0,zJ 15 8 14]) (.cond (.tmp 15) (.seq (.reg [z3 16 0,z6 17 16,z4 18 8 17,z5 19 1 18,qh 20 1 19 0,z5 21 1 20,z3 2 21]) .ret) .skip)) (.seq (.seq (.dreg 17 [z3 22 0,z6 23 22,z4 24 5 23,z5 25 1 24,z7 26 25 5,z3 27 26,zF 28 27 0,zR 29 27 28,zE
 30 27 6 29,zD 31 27 1 30,zF 32 27 0,zR 33 27 32,zE 34 27 4 33,zD 35 27 1 34,zq 36 27 35,qS 37 27 31 36,zJ 38 27 37]) (.cond (.tmp 38) (.seq (.reg [z3 39 0,z6 40 39,z4 41 6 40,z5 42 1 41,z3 2 42]) .ret) .skip)) (.seq (.reg [zC 2 (-1)]) .ret)))
theorem t123:Tryz.f123.body.bind (trC e123)=some c123:=by kernel_rfl
theorem r123:Tryz.f123.results.toList.mapM (trR Tryz.prog)=some [.tmp 2]:=by kernel_rfl
theorem fn123{args:List Value}{M:Mem}{post:Value→Mem→Prop}(hl:args.length≤43)(h:VC e123 c123 (fnQ [.tmp 2] post) (initS args 43) M):Fn Tryz.prog 123 args M post:=
 Fn.of' (E:=e123) Tryz.func123 t123 rfl r123 mixed hl h
noncomputable def e78:Env:=⟨Tryz.prog,[5,7],22,[]⟩
noncomputable def c78:C:=
 .seq (.reg [zZ 5 2,zL 6]) (.seq (.reg [z3 8 0,zA 9 3 5,zU 10 122 8 9,zo 7 0 0 0,z8 3 7 10]) (.seq (.reg [z4 11 0 7,z5 12 1 11,z7 13 12 2,z3 14 13,zF 15 14 1,zE 16 14 2 7,zD 17 14 1 16,zj 18 14 1 15 17,zD 19 14 1 18,q5 20 14 19,zJ 21 14 20,z3 6 21]) .ret))
theorem t78:Tryz.f78.body.bind (trC e78)=some c78:=by kernel_rfl
theorem r78:Tryz.f78.results.toList.mapM (trR Tryz.prog)=some [.tmp 6]:=by kernel_rfl
theorem fn78{args:List Value}{M:Mem}{post:Value→Mem→Prop}(hl:args.length≤22)(h:VC e78 c78 (fnQ [.tmp 6] post) (initS args 22) M):Fn Tryz.prog 78 args M post:=
 Fn.of' (E:=e78) Tryz.func78 t78 rfl r78 mixed hl h
noncomputable def e32:Env:=⟨Tryz.prog,[8],125,[]⟩
noncomputable def c32:C:=
 .seq (.reg [zC 2 0,zC 3 0]) (.seq (.reg [z3 12 0,zM 13 77 12,z3 4 13]) (.seq (.reg [zC 5 0]) (.seq (.seq (.reg [z3 14 0,z6 15 14,z4 16 4 15,z5 17 1 16,zG 18 17,zC 19 0]) (.block 0 (.loop (.seq (.reg [zQ 20 19 18]) (.seq (.cond (.tmp 20) .skip (.exit 0)) (.seq (.block 1 (.seq (.reg [z3 21 19,z3 6 21]) (.seq (.seq (.reg [z3 22 4,z3 23 6,z9 24 1 22 23,z5 25 1 24,zV 26 25]) (.cond (.tmp 26)
 (.exit 1) .skip)) (.seq (.reg [z3 27 0,z6 28 27,z4 29 4 28,z5 30 1 29,z3 31 6,z9 32 8 30 31,z4 33 7 32,z5 34 1 33,zG 35 34,za 36 35 1,z3 7 36]) (.block 2 (.loop (.seq (.seq (.reg [z3 37 7,qb 38 37 0]) (.cond (.tmp 38) .skip (.exit 2))) (.seq (.block 3 (.seq (.reg [z3 41 0,z6 42 41,z4 43 4 42,z5 44 1 43,z3 45 6,z9 46 8 44 45,z4 47 7 46,z5 48 1 47,z3 49 7,z9 50 6 48 49,zA 51 6 50,zy 8 0 0 0 0 0
 0,z8 6 8 51]) (.seq (.reg [z3 52 0,z6 53 52,z4 54 4 53,z5 55 1 54,z3 56 6,z9 57 8 55 56,z4 58 2 57,z5 59 1 58,z3 9 59]) (.seq (.reg [z3 60 9,qd 61 60 1,zz 62 61 0,z3 63 62,zF 64 63 0,zF 65 63 4,zE 66 63 0 8,qT 67 63 3 66,⟨some 68,some (63,true),.call 78 [.tmp 64,.tmp 65,.tmp 67]⟩,zJ 69 63 68,z3 70 69,zP 71 70 9,⟨some 72,some (70,false),.bin .and (.tmp 71) (.const (.int .i64 2))⟩,qr 73 70 72 0,
 zP 74 70 73,zF 75 74 0,zF 76 74 4,zE 77 74 3 8,qT 78 74 3 77,⟨some 79,some (74,true),.call 78 [.tmp 75,.tmp 76,.tmp 78]⟩,q9 80 70 74 79,zO 81 70 80]) (.cond (.tmp 81) (.seq (.reg [z3 82 0,z3 83 6,z3 84 7,qU 85 79 82 83 84]) (.reg [z3 86 5,zN 87 86 1,z3 5 87])) .skip))))) (.reg [z3 39 7,za 40 39 1,z3 7 40]))))))))) (.reg [zN 88 19 1,z3 19 88]))))))) (.seq (.reg [zC 10 0]) (.seq (.seq (.reg [
 z3 89 0,z6 90 89,z4 91 4 90,z5 92 1 91,zG 93 92,zC 94 0]) (.block 4 (.loop (.seq (.reg [zQ 95 94 93]) (.seq (.cond (.tmp 95) .skip (.exit 4)) (.seq (.block 5 (.seq (.reg [z3 96 94,z3 11 96]) (.seq (.reg [z3 97 0,z6 98 97,z4 99 4 98,z5 100 1 99,z3 101 11,z9 102 8 100 101,z4 103 3 102,z5 104 1 103,z7 105 104 1,z3 106 105,zF 107 106 4,zF 108 106 11,zj 109 106 1 107 108,zD 110 106 1 109,q5 111 106
 110,zJ 112 106 111]) (.cond (.tmp 112) (.seq (.reg [z3 113 0,z6 114 113,z4 115 4 114,z5 116 1 115,z3 117 11,z9 118 8 116 117,z4 119 3 118,qH 1 119 2]) (.reg [z3 120 10,zN 121 120 1,z3 10 121])) .skip)))) (.reg [zN 122 94 1,z3 94 122]))))))) (.seq (.reg [z3 123 5,z3 124 10,z3 2 123,z3 3 124]) .ret))))))
theorem t32:Tryz.f32.body.bind (trC e32)=some c32:=by kernel_rfl
theorem r32:Tryz.f32.results.toList.mapM (trR Tryz.prog)=some [.tmp 2,.tmp 3]:=by kernel_rfl
theorem fn32{args:List Value}{M:Mem}{post:Value→Mem→Prop}(hl:args.length≤125)(h:VC e32 c32 (fnQ [.tmp 2,.tmp 3] post) (initS args 125) M):Fn Tryz.prog 32 args M post:=
 Fn.of' (E:=e32) Tryz.func32 t32 rfl r32 mixed hl h
noncomputable def e10:Env:=⟨Tryz.prog,[1,2],23,[]⟩
noncomputable def c10:C:=
 .seq (.reg [zZ 1 0,qw 2 0 0 0 0 0 0 0 0 0 0 0 0 0 0 0 0 0 0]) (.seq (.seq (.reg [zA 6 13 1,zM 7 30 6,zk 8 7 0]) (.cond (.tmp 8) (.seq (.reg [⟨some 9,none,.build [.int .i64 0,.int .i64 0,.int .i64 0,.slice none 0 0,.slice none 0 0,.int .i64 0,.int .i64 0,.int .i64 0,.slice none 0 0,.int .i64 0,.int .i64 0,.int .i64 0,.int .i64 0,.int .i64 0,.int .i64 0] []⟩,z8 15 2 9]) .ret) .skip)) (.seq (.reg
 [zA 10 13 1,zM 11 31 10,z3 3 11]) (.seq (.reg [z3 13 3,zM 14 32 13,z3 12 14,q8 15 12 0,q8 16 12 1,z3 4 15,z3 5 16]) (.seq (.reg [z3 17 3,z6 18 17,zA 19 13 18,z3 20 4,z3 21 5,⟨some 22,none,.build [.int .i64 0,.int .i64 0,.int .i64 0,.slice none 0 0,.slice none 0 0,.int .i64 0,.int .i64 0,.int .i64 0,.slice none 0 0,.int .i64 0,.int .i64 0,.int .i64 0,.int .i64 0,.int .i64 0,.int .i64 0] [(0,13,
 .tmp 19),(13,1,.tmp 20),(14,1,.tmp 21)]⟩,z8 15 2 22]) .ret))))
theorem t10:Tryz.f10.body.bind (trC e10)=some c10:=by kernel_rfl
theorem r10:Tryz.f10.results.toList.mapM (trR Tryz.prog)=some [.cell 2 false 15]:=by kernel_rfl
theorem fn10{args:List Value}{M:Mem}{post:Value→Mem→Prop}(hl:args.length≤23)(h:VC e10 c10 (fnQ [.cell 2 false 15] post) (initS args 23) M):Fn Tryz.prog 10 args M post:=
 Fn.of' (E:=e10) Tryz.func10 t10 rfl r10 mixed hl h
end Go.Proofs.YtcjmodomfilagaaGreat.E
set_option linter.unusedSimpArgs false
set_option maxHeartbeats 8000000
namespace Go.Proofs.YtcjmodomfilagaaGreat.E
open Go
open Classical
theorem plain_flat{α:Type}{f:α→List Value}(h:∀x,plainCells (f x)=true):∀xs:List α,plainCells (xs.flatMap f)=true
 |[]=>rfl
 |x::r=>by
  have h1:=h x
  have h2:=plain_flat h r
  unfold plainCells at*
  rw[List.flatMap_cons,List.all_append,h1,h2];rfl
theorem prA_snoc{ys:List CS}{y:CS}{m:Mem}(h:star [prA ys,slA 6 pv y.d y.c.pairs] m):prA (ys++[y]) m:=by
 unfold prA
 rw[List.map_append]
 obtain⟨a,b,d,e,h1,h2⟩:=star2.1 h
 refine star_append.2 ⟨a,b,d,e,h1,?_⟩
 exact⟨b,emp,disj_emp _,(un_emp _).symm,h2,rfl⟩
theorem cl_snoc{cd:D}{ys:List CS}{y:CS}{R:List Asr}:Ent (slA 8 csv cd (ys++[y])::prA ys::slA 6 pv y.d y.c.pairs::R) (clA cd (ys++[y])::R):=ent_of fun m h=>by
 obtain⟨a,b,d,rfl,h1,h2⟩:=h
 have h2:star ([prA ys,slA 6 pv y.d y.c.pairs]++R) b:=h2
 obtain⟨c,e,d2,rfl,h3,h4⟩:=star_append.1 h2
 refine⟨a.un c,e,?_,(un_assoc _ _ _).symm,star2.2 ⟨a,c,(disj_un.1 d).1,rfl,h1,prA_snoc h3⟩,h4⟩
 exact disj_un'.2 ⟨(disj_un.1 d).2,d2⟩
theorem cl_nil{R:List Asr}{d:D}:Ent (slA 8 csv d []::R) (clA d []::R):=ent_h fun m h=>star2.2 ⟨m,emp,disj_emp _,(un_emp _).symm,h,rfl⟩
theorem Has.sls{m:Mem}{x:HX}(h:Has m x.body):Sl m 3 wv (.slice x.rd.a x.regs.length x.rd.cap) x.regs∧Sl m 1 iv (.slice x.gd.a x.gray.length x.gd.cap) x.gray∧∀y,y∈x.xs→Sl m 6 pv (.slice y.d.a y.c.pairs.length y.d.cap) y.c.pairs:=
 ⟨h.b.regs,h.b.gray,h.b.cl.ps⟩
def twH(x:HX)(rd gd cd:D)(nc:Nat):Hdr:=⟨x.room,x.used,x.born,rd,x.regs.length,cd,nc,x.phase,x.hand,x.sub,gd,x.gray.length,x.per,x.start,x.rounds,x.forced⟩
theorem twin_a{m:Mem}{x:HX}(h:Has m x.body)(h1:R1 x.H)(h2:R2 x.H):FnA Tryz.prog 28 [x.v] [ro m] (fun v As=>∃b,∃y:HX,v=ptr b∧As=hp b y++[ro m]∧y.H=x.H):=by
 have hb0:=h.b
 have hl:=x.len
 have g1:x.regs.length=16:=h1.regs
 have g2:=h1.room
 have g3:=h1.cells
 have g4:x.gray.length≤x.H.cells.length:=h1.gray
 refine fnA_of (fun h=>fn28 (by simp) h) ?_
 refine v_seq (v_reg (a_nwh x rfl (fun b=>?_)))
 repeat' (first
  |(refine k_L ?_;first|refine a_p rfl ?_|(refine k_l ?_;refine g_l rfl ?_)|(refine a_ns (f:=wv) [] (fun _=>rfl) rfl rfl rfl (by omega) (fun e he=>?_);obtain⟨ea,ec⟩:=e;simp only at he;subst he))
  |refine a_n ?_
  |(refine k_V ?_;first|refine v_seq ?_|refine v_reg ?_))
 refine a_as (f:=wv) (xs:=[]) (zs:=x.regs) (e:=⟨ea,0⟩) (g:=x.rd) (by(fail_if_success apply pk_bad);(repeat(first|exact pk_h|apply pk_t));fail_if_success focus skip) wv_len (by omega) rfl rfl (fun m' hm'=>(has_g h hm').sls.1) (plain_flat (fun _=>rfl) _) (by simp;omega) (fun rd=>?_)
 repeat' (first
  |(refine k_L ?_;first|refine a_p rfl ?_|(refine k_l ?_;refine g_l rfl ?_)|(refine k_st ?_;refine g_st rfl rfl rfl rfl ?_)|(refine a_ns (f:=iv) [] (fun _=>rfl) rfl rfl rfl (by omega) (fun e he=>?_);obtain⟨fa,fc⟩:=e;simp only at he;subst he))
  |refine a_n ?_
  |(refine k_V ?_;first|refine v_seq ?_|refine v_reg ?_))
 refine a_as (f:=iv) (xs:=[]) (zs:=x.gray) (e:=⟨fa,0⟩) (g:=x.gd) (by(fail_if_success apply pk_bad);(repeat(first|exact pk_h|apply pk_t));fail_if_success focus skip) iv_len (by omega) rfl rfl (fun m' hm'=>(has_g h hm').sls.2.1) (plain_flat (fun _=>rfl) _) (by simp;omega) (fun gd=>?_)
 repeat' (first
  |(refine k_L ?_;first|refine a_p rfl ?_|(refine k_l ?_;refine g_l rfl ?_)|(refine k_st ?_;refine g_st rfl rfl rfl rfl ?_))
  |refine a_n ?_
  |(refine k_V ?_;first|refine v_seq ?_|refine v_reg ?_))
 refine a_mk (f:=csv) (n:=0) (k:=(x.xs.length:Int)) ⟨Cell.zero,none,0⟩ csv_len rfl rfl rfl (by omega) (by omega) (fun cd hcd=>?_)
 repeat' (first
  |(refine k_L ?_;first|refine a_p rfl ?_|(refine k_st ?_;refine g_st rfl rfl rfl rfl ?_))
  |refine a_n ?_
  |(refine k_V ?_;first|refine v_seq ?_|refine v_reg ?_)
  |refine s_n ?_)
 refine VA.ent (Bs:=[hdA b (twH x rd gd cd 0),slA 3 wv rd x.regs,slA 1 iv gd x.gray,clA cd [],ro m]) ?_ ?_
 ·refine Ent.trans (Pm.ent (As1:=[slA 8 csv cd [],hdA b (twH x rd gd cd 0),slA 3 wv rd x.regs,slA 1 iv gd x.gray,ro m]) pmt) ?_
  exact cl_nil.trans (Pm.ent pmt)
 refine g_range x.xs.length (fun q:List CS×D=>[(1,.v (ptr b)),(22,.v (.slice x.cd.a x.xs.length x.cd.cap))]) (fun q=>[hdA b (twH x rd gd q.2 q.1.length),slA 3 wv rd x.regs,slA 1 iv gd x.gray,clA q.2 q.1,ro m]) (fun i q=>q.1.length=i∧q.1.map (·.c)=(x.xs.take i).map (·.c)) (([],cd):List CS×D) ⟨rfl,rfl⟩ (fun i q hi hv=>?_) (fun q hv=>?_)
 ·obtain⟨ys,cd⟩:=q
  obtain⟨hv1,hv2⟩:=hv
  simp only at hv1 hv2
  obtain⟨y,gy,gc⟩:=HX.at hi
  have hym:y∈x.xs:=List.mem_of_getElem? gy
  have hpl:=h2.pl (List.mem_of_getElem? gc)
  repeat' (first
   |(refine k_L ?_;first|refine a_p rfl ?_|(refine k_i ?_;refine g_i rfl rfl ?_)|(refine k_ls ?_;refine g_ls rfl ?_)|(refine k_st ?_;refine g_sw rfl rfl rfl rfl (Nat.le_of_ble_eq_true rfl) ?_)|(refine k_al ?_;refine a_al ?_)|(refine a_ns (f:=pv) [] (fun _=>rfl) rfl rfl rfl (by omega) (fun e he=>?_);obtain⟨pa,pc⟩:=e;simp only at he;subst he))
   |refine a_n ?_
   |(refine k_V ?_;first|refine v_seq ?_|refine v_reg ?_)
   |refine sk_zero ?_
   |refine sk_succ ?_
   |refine wk_nil ?_
   |refine wk_cons ?_)
  refine a_as (f:=pv) (xs:=[]) (zs:=y.c.pairs) (e:=⟨pa,0⟩) (g:=y.d) (by(fail_if_success apply pk_bad);(repeat(first|exact pk_h|apply pk_t));fail_if_success focus skip) pv_len (by omega) rfl rfl (fun m' hm'=>(has_g h hm').sls.2.2 y hym) (plain_flat (fun _=>rfl) _) (by simp;omega) (fun pd=>?_)
  repeat' (first
   |(refine k_L ?_;first|refine a_p rfl ?_|(refine k_l ?_;refine g_l rfl ?_)|(refine k_st ?_;refine g_sw rfl rfl rfl rfl (Nat.le_of_ble_eq_true rfl) ?_)|(refine k_bl ?_;refine a_bl rfl ?_))
   |refine a_n ?_
   |(refine k_V ?_;refine v_reg ?_)
   |refine sk_zero ?_
   |refine sk_succ ?_
   |refine wk_nil ?_
   |refine wk_cons ?_)
  refine LA.ent (Bs:=[slA 8 csv cd ys,prA ys,slA 6 pv pd y.c.pairs,hdA b (twH x rd gd cd ys.length),slA 3 wv rd x.regs,slA 1 iv gd x.gray,ro m]) ?_ ?_
  ·refine Ent.trans (Pm.ent (As1:=[clA cd ys,slA 6 pv pd y.c.pairs,hdA b (twH x rd gd cd ys.length),slA 3 wv rd x.regs,slA 1 iv gd x.gray,ro m]) pmt) ?_
   exact cl_open.trans (Pm.ent pmt)
  repeat' (first
   |(refine k_L ?_;first|(refine k_ad ?_;refine g_ad rfl rfl ?_)|(refine k_su ?_;refine g_su rfl rfl ?_)|(refine k_ml ?_;refine g_ml rfl rfl ?_)|refine a_p rfl ?_|(refine k_g ?_;first|refine a_gy rfl rfl ?_|refine a_gn rfl rfl ?_|refine a_gu rfl ?_|(refine a_gd rfl (fun hb=>?_) (fun hb=>?_)<;>try(exfalso;omega))|(refine a_ge rfl (fun hb=>?_) (fun hb=>?_)<;>try(exfalso;omega))|(refine a_gne rfl (fun hb=>?_) (fun hb=>?_)<;>try(exfalso;omega))|(refine a_gnd rfl (fun hb=>?_) (fun hb=>?_)<;>try(exfalso;omega)))|(refine k_l ?_;refine g_l rfl ?_)|(refine k_i ?_;refine g_i rfl rfl ?_)|(refine k_ls ?_;refine g_ls rfl ?_)|(refine k_st ?_;first|refine g_st rfl rfl rfl rfl ?_|refine g_sw rfl rfl rfl rfl (Nat.le_of_ble_eq_true rfl) ?_)|(refine k_al ?_;refine a_al ?_)|(refine k_bx ?_;refine a_bx rfl rfl ?_)|(refine k_bl ?_;refine a_bl rfl ?_)|(refine k_p ?_;first|(refine a_pd rfl (fun hb=>?_) (fun hb=>?_)<;>try(exfalso;omega))|(refine a_pe rfl (fun hb=>?_) (fun hb=>?_)<;>try(exfalso;omega))|(refine a_pne rfl (fun hb=>?_) (fun hb=>?_)<;>try(exfalso;omega))|(refine a_pnd rfl (fun hb=>?_) (fun hb=>?_)<;>try(exfalso;omega))))
   |refine a_n ?_
   |(refine k_V ?_;first|refine v_rv ?_|refine v_seq ?_|refine v_reg ?_|refine v_dreg ?_|refine v_zreg ?_|refine v_bs ?_|refine v_br ?_|refine v_bd ?_|refine v_bc ?_|refine v_bk ?_|refine v_bb ?_|refine v_ret ?_|refine v_exit ?_|refine v_skip ?_|refine v_ct rfl ?_|refine v_cf rfl ?_|(refine v_cd rfl (fun hb=>?_) (fun hb=>?_)<;>try(exfalso;omega))|(refine v_ce rfl (fun hb=>?_) (fun hb=>?_)<;>try(exfalso;omega))|(refine v_cn rfl (fun hb=>?_) (fun hb=>?_)<;>try(exfalso;omega))|(refine v_cnd rfl (fun hb=>?_) (fun hb=>?_)<;>try(exfalso;omega)))
   |refine s_n ?_
   |refine s_r ?_
   |refine s_e ?_
   |refine b_n ?_
   |refine b_r ?_
   |refine b_e ?_
   |refine b_o rfl ?_
   |refine r_rt ?_
   |refine r_bk rfl ?_
   |refine r_ex rfl rfl ?_
   |refine sk_zero ?_
   |refine sk_succ ?_
   |refine wk_nil ?_
   |refine wk_cons ?_)
  refine g_ap (⟨y.c,pd.a,pd.cap⟩:CS) csv_len rfl rfl rfl (by omega) (hb:=by first|omega|(simp only;omega)) (fun cd'=>?_)
  repeat' (first
   |(refine k_L ?_;first|refine a_p rfl ?_|(refine k_st ?_;refine g_st rfl rfl rfl rfl ?_))
   |refine a_n ?_)
  refine r_nx ((ys++[(⟨y.c,pd.a,pd.cap⟩:CS)],cd'):List CS×D) ⟨by simp[hv1],?_⟩ (he:=?_)
  ·rw[List.map_append,hv2,List.take_add_one,gy];simp
  ·refine Ent.trans (Pm.ent (As1:=[slA 8 csv cd' (ys++[(⟨y.c,pd.a,pd.cap⟩:CS)]),prA ys,slA 6 pv pd y.c.pairs,hdA b (twH x rd gd cd' (ys++[(⟨y.c,pd.a,pd.cap⟩:CS)]).length),slA 3 wv rd x.regs,slA 1 iv gd x.gray,ro m]) pmt) ?_
   exact(cl_snoc (y:=⟨y.c,pd.a,pd.cap⟩)).trans (Pm.ent pmt)
 ·obtain⟨ys,cd⟩:=q
  obtain⟨hv1,hv2⟩:=hv
  simp only at hv1 hv2
  rw[List.take_of_length_le (Nat.le_refl _)]at hv2
  repeat' (first
   |(refine k_L ?_;refine a_p rfl ?_)
   |refine a_n ?_
   |(refine k_V ?_;first|refine v_seq ?_|refine v_reg ?_|refine v_ret ?_))
  refine fa_r (As':=hp b (⟨x.room,x.used,x.born,x.regs,ys,x.phase,x.hand,x.sub,x.gray,x.per,x.start,x.rounds,x.forced,rd,cd,gd⟩:HX)++[ro m]) (fun _ _=>rfl) (Pm.ent pmt) ⟨b,_,rfl,rfl,?_⟩
  unfold HX.H
  simp only[hv2]
theorem up_all{b:Nat}{vs ws:List Value}(h:ws.length=vs.length):UpA (bx b vs) b 0 ws (bx b ws):=up_bx (by omega) ⟨by rw[wr_all _ _ h.symm]⟩
theorem u_rd0{a:Nat}{h:Hdr}:UpA (hdA a h) a 3 [.slice none 0 0] (hdA a (h.s_rd ⟨none,0⟩ 0)):=u_rd (d:=⟨none,0⟩)
theorem u_cd0{a:Nat}{h:Hdr}:UpA (hdA a h) a 4 [.slice none 0 0] (hdA a (h.s_cd ⟨none,0⟩ 0)):=u_cd (d:=⟨none,0⟩)
theorem u_gd0{a:Nat}{h:Hdr}:UpA (hdA a h) a 8 [.slice none 0 0] (hdA a (h.s_gd ⟨none,0⟩ 0)):=u_gd (d:=⟨none,0⟩)
def cpH(x:HX)(rd:D)(nr:Nat)(cd:D)(nc:Nat)(gd:D)(ng:Nat):Hdr:=⟨x.room,x.used,x.born,rd,nr,cd,nc,x.phase,x.hand,x.sub,gd,ng,x.per,x.start,x.rounds,x.forced⟩
theorem l1copy_a{m:Mem}{x:HX}(h:Has m x.body)(h1:R1 x.H)(h2:R2 x.H):FnA Tryz.prog 31 [x.v] [ro m] (fun v As=>∃b,∃y:HX,v=ptr b∧As=hp b y++[ro m]∧y.H=x.H):=by
 have hl:=x.len
 have g1:x.regs.length=16:=h1.regs
 have g2:=h1.room
 have g3:=h1.cells
 have g4:x.gray.length≤x.H.cells.length:=h1.gray
 refine fnA_of (fun h=>fn31 (by simp) h) ?_
 repeat' (first
  |(refine k_L ?_;first|refine a_p rfl ?_|(refine k_bx ?_;refine a_bx rfl rfl ?_)|(refine a_nz (fun b=>?_)))
  |refine a_n ?_
  |(refine k_V ?_;first|refine v_seq ?_|refine v_reg ?_))
 refine a_st (As':=[bx b x.row,ro m]) rfl rfl rfl rfl (up_h (up_all rfl)) ?_
 refine LA.ent (Bs:=[hdA b x.hdr,ro m]) (Ent.refl _) ?_
 repeat' (first
  |(refine k_L ?_;first|refine a_p rfl ?_|(refine a_st rfl rfl rfl rfl (by exact up_h u_rd0) ?_))
  |refine a_n ?_
  |(refine k_V ?_;first|refine v_seq ?_|refine v_reg ?_)
  |refine s_n ?_)
 refine VA.ent (ent_new (f:=wv) (size:=3)) ?_
 refine g_range x.regs.length (fun q:List Word×D=>[(1,.box x.row),(3,.v (ptr b)),(16,.v (.slice x.rd.a x.regs.length x.rd.cap))]) (fun q=>[hdA b (cpH x q.2 q.1.length x.cd x.xs.length x.gd x.gray.length),slA 3 wv q.2 q.1,ro m]) (fun i q=>q.1=x.regs.take i) (([],⟨none,0⟩):List Word×D) rfl (fun i q hi hv=>?_) (fun q hv=>?_)
 ·obtain⟨ws,rd⟩:=q
  simp only at hv
  subst hv
  obtain⟨w,gw⟩:∃w,x.regs[i]?=some w:=⟨_,List.getElem?_eq_getElem hi⟩
  repeat' (first
   |(refine k_L ?_;first|refine a_p rfl ?_|(refine k_l ?_;refine g_l rfl ?_)|(refine k_i ?_;refine g_i rfl rfl ?_)|(refine k_ls ?_;refine g_ls rfl ?_)|(refine k_st ?_;refine g_sw rfl rfl rfl rfl (Nat.le_of_ble_eq_true rfl) ?_)|(refine k_al ?_;refine a_al ?_)|(refine k_bl ?_;refine a_bl rfl ?_))
   |refine a_n ?_
   |(refine k_V ?_;first|refine v_seq ?_|refine v_reg ?_)
   |refine sk_zero ?_
   |refine sk_succ ?_
   |refine wk_nil ?_
   |refine wk_cons ?_)
  refine g_ap w wv_len rfl rfl rfl (by omega) (hb:=by simp only[List.length_take];omega) (fun rd'=>?_)
  repeat' (first
   |(refine k_L ?_;first|refine a_p rfl ?_|(refine k_st ?_;refine g_st rfl rfl rfl rfl ?_))
   |refine a_n ?_)
  exact r_nx ((x.regs.take i++[w],rd'):List Word×D) (by rw[List.take_add_one,gw];rfl)
 obtain⟨ws,rd⟩:=q
 simp only[List.take_of_length_le (Nat.le_refl _)]at hv
 subst hv
 repeat' (first
  |(refine k_L ?_;first|refine a_p rfl ?_|(refine a_st rfl rfl rfl rfl (by exact up_h u_cd0) ?_))
  |refine a_n ?_
  |(refine k_V ?_;first|refine v_seq ?_|refine v_reg ?_)
  |refine s_n ?_)
 refine VA.ent (ent_new (f:=csv) (size:=8)) ?_
 refine VA.ent (cl_nil (d:=⟨none,0⟩)) ?_
 refine g_range x.xs.length (fun q:List CS×D=>[(1,.box x.row),(3,.v (ptr b)),(31,.v (.slice x.cd.a x.xs.length x.cd.cap))]) (fun q=>[hdA b (cpH x rd x.regs.length q.2 q.1.length x.gd x.gray.length),slA 3 wv rd x.regs,clA q.2 q.1,ro m]) (fun i q=>q.1.length=i∧q.1.map (·.c)=(x.xs.take i).map (·.c)) (([],⟨none,0⟩):List CS×D) ⟨rfl,rfl⟩ (fun i q hi hv=>?_) (fun q hv=>?_)
 ·obtain⟨ys,cd⟩:=q
  obtain⟨hv1,hv2⟩:=hv
  simp only at hv1 hv2
  obtain⟨y,gy,gc⟩:=HX.at hi
  have hpl:=h2.pl (List.mem_of_getElem? gc)
  repeat' (first
   |(refine k_L ?_;first|refine a_p rfl ?_|(refine k_i ?_;refine g_i rfl rfl ?_)|(refine k_ls ?_;refine g_ls rfl ?_)|(refine k_st ?_;refine g_sw rfl rfl rfl rfl (Nat.le_of_ble_eq_true rfl) ?_)|(refine k_al ?_;refine a_al ?_))
   |refine a_n ?_
   |(refine k_V ?_;first|refine v_seq ?_|refine v_reg ?_)
   |refine s_n ?_
   |refine sk_zero ?_
   |refine sk_succ ?_
   |refine wk_nil ?_
   |refine wk_cons ?_)
  refine VA.ent (Bs:=[slA 8 csv cd ys,prA ys,hdA b (cpH x rd x.regs.length cd ys.length x.gd x.gray.length),slA 3 wv rd x.regs,ro m]) ?_ ?_
  ·refine Ent.trans (Pm.ent (As1:=[clA cd ys,hdA b (cpH x rd x.regs.length cd ys.length x.gd x.gray.length),slA 3 wv rd x.regs,ro m]) pmt) ?_
   exact cl_open.trans (Pm.ent pmt)
  refine VA.ent (ent_new (f:=pv) (size:=6)) ?_
  refine g_range y.c.pairs.length (fun q:List Pair×D=>[(1,.box x.row),(3,.v (ptr b)),(31,.v (.slice x.cd.a x.xs.length x.cd.cap)),(33,.v (.int .i64 i)),(32,.v (.int .i64 x.xs.length)),(8,.box [.int .i64 y.c.state,.int .i64 y.c.kind,.int .i64 y.c.weak,.int .i64 y.c.last,.int .i64 y.c.born,.int .i64 y.c.color,.int .i64 y.c.to,.slice q.2.a q.1.length q.2.cap]),(40,.v (.slice y.d.a y.c.pairs.length y.d.cap))]) (fun q=>[slA 6 pv q.2 q.1,slA 8 csv cd ys,prA ys,hdA b (cpH x rd x.regs.length cd ys.length x.gd x.gray.length),slA 3 wv rd x.regs,ro m]) (fun k q=>q.1=y.c.pairs.take k) (([],⟨none,0⟩):List Pair×D) rfl (fun k q hk hw=>?_) (fun q hw=>?_)
  ·obtain⟨ps,pd⟩:=q
   simp only at hw
   subst hw
   obtain⟨p,gp⟩:∃p,y.c.pairs[k]?=some p:=⟨_,List.getElem?_eq_getElem hk⟩
   repeat' (first
    |(refine k_L ?_;first|refine a_p rfl ?_|(refine k_i ?_;refine g_i rfl rfl ?_)|(refine k_ls ?_;refine g_ls rfl ?_)|(refine k_st ?_;refine g_sw rfl rfl rfl rfl (Nat.le_of_ble_eq_true rfl) ?_)|(refine k_al ?_;refine a_al ?_)|(refine k_bl ?_;refine a_bl rfl ?_))
    |refine a_n ?_
    |(refine k_V ?_;first|refine v_seq ?_|refine v_reg ?_)
    |refine sk_zero ?_
    |refine sk_succ ?_
    |refine wk_nil ?_
    |refine wk_cons ?_)
   refine g_ap p pv_len rfl rfl rfl (by omega) (hb:=by simp only[List.length_take];omega) (fun pd'=>?_)
   repeat' (first
    |(refine k_L ?_;first|refine a_p rfl ?_|(refine k_st ?_;refine g_sw rfl rfl rfl rfl (Nat.le_of_ble_eq_true rfl) ?_))
    |refine a_n ?_
    |refine sk_zero ?_
    |refine sk_succ ?_
    |refine wk_nil ?_
    |refine wk_cons ?_)
   exact r_nx ((y.c.pairs.take k++[p],pd'):List Pair×D) (by rw[List.take_add_one,gp];rfl)
  obtain⟨ps,pd⟩:=q
  simp only[List.take_of_length_le (Nat.le_refl _)]at hw
  subst hw
  repeat' (first
   |(refine k_L ?_;first|refine a_p rfl ?_|(refine k_l ?_;refine g_l rfl ?_)|(refine k_bl ?_;refine a_bl rfl ?_))
   |refine a_n ?_
   |(refine k_V ?_;refine v_reg ?_))
  refine g_ap (⟨y.c,pd.a,pd.cap⟩:CS) csv_len rfl rfl rfl (by omega) (hb:=by first|omega|(simp only;omega)) (fun cd'=>?_)
  repeat' (first
   |(refine k_L ?_;first|refine a_p rfl ?_|(refine k_st ?_;refine g_st rfl rfl rfl rfl ?_))
   |refine a_n ?_)
  refine r_nx ((ys++[(⟨y.c,pd.a,pd.cap⟩:CS)],cd'):List CS×D) ⟨by simp[hv1],?_⟩ (he:=?_)
  ·rw[List.map_append,hv2,List.take_add_one,gy];simp
  ·refine Ent.trans (Pm.ent (As1:=[slA 8 csv cd' (ys++[(⟨y.c,pd.a,pd.cap⟩:CS)]),prA ys,slA 6 pv pd y.c.pairs,hdA b (cpH x rd x.regs.length cd' (ys++[(⟨y.c,pd.a,pd.cap⟩:CS)]).length x.gd x.gray.length),slA 3 wv rd x.regs,ro m]) pmt) ?_
   exact(cl_snoc (y:=⟨y.c,pd.a,pd.cap⟩)).trans (Pm.ent pmt)
 obtain⟨ys,cd⟩:=q
 obtain⟨hv1,hv2⟩:=hv
 simp only at hv1 hv2
 rw[List.take_of_length_le (Nat.le_refl _)]at hv2
 repeat' (first
  |(refine k_L ?_;first|refine a_p rfl ?_|(refine a_st rfl rfl rfl rfl (by exact up_h u_gd0) ?_))
  |refine a_n ?_
  |(refine k_V ?_;first|refine v_seq ?_|refine v_reg ?_)
  |refine s_n ?_)
 refine VA.ent (ent_new (f:=iv) (size:=1)) ?_
 refine g_range x.gray.length (fun q:List Int×D=>[(1,.box x.row),(3,.v (ptr b)),(62,.v (.slice x.gd.a x.gray.length x.gd.cap))]) (fun q=>[hdA b (cpH x rd x.regs.length cd ys.length q.2 q.1.length),slA 3 wv rd x.regs,clA cd ys,slA 1 iv q.2 q.1,ro m]) (fun i q=>q.1=x.gray.take i) (([],⟨none,0⟩):List Int×D) rfl (fun i q hi hv=>?_) (fun q hv=>?_)
 ·obtain⟨ws,gd⟩:=q
  simp only at hv
  subst hv
  obtain⟨w,gw⟩:∃w,x.gray[i]?=some w:=⟨_,List.getElem?_eq_getElem hi⟩
  repeat' (first
   |(refine k_L ?_;first|refine a_p rfl ?_|(refine k_l ?_;refine g_l rfl ?_)|(refine k_i ?_;refine g_i rfl rfl ?_)|(refine k_bl ?_;refine a_bl rfl ?_))
   |refine a_n ?_
   |(refine k_V ?_;first|refine v_seq ?_|refine v_reg ?_))
  refine g_ap w iv_len rfl rfl rfl (by omega) (hb:=by simp only[List.length_take];omega) (fun gd'=>?_)
  repeat' (first
   |(refine k_L ?_;first|refine a_p rfl ?_|(refine k_st ?_;refine g_st rfl rfl rfl rfl ?_))
   |refine a_n ?_)
  exact r_nx ((x.gray.take i++[w],gd'):List Int×D) (by rw[List.take_add_one,gw];rfl)
 obtain⟨ws,gd⟩:=q
 simp only[List.take_of_length_le (Nat.le_refl _)]at hv
 subst hv
 repeat' (first
  |(refine k_L ?_;refine a_p rfl ?_)
  |refine a_n ?_
  |(refine k_V ?_;first|refine v_seq ?_|refine v_reg ?_|refine v_ret ?_))
 refine fa_r (As':=hp b (⟨x.room,x.used,x.born,x.regs,ys,x.phase,x.hand,x.sub,x.gray,x.per,x.start,x.rounds,x.forced,rd,cd,gd⟩:HX)++[ro m]) (fun _ _=>rfl) (Pm.ent pmt) ⟨b,_,rfl,rfl,?_⟩
 unfold HX.H
 simp only[hv2]
theorem pairsN_units{H:Heap}(h:R2 H):pairsN H.cells≤unitsN H.cells:=by
 have key:∀cs:List Cell,(∀c,c∈cs→c.state≠1→c.pairs=[])→pairsN cs≤unitsN cs:=by
  intro cs
  induction cs with
  |nil=>intro _;simp[pairsN,unitsN]
  |cons c r ih=>
   intro h
   have h1:=ih (fun d hd=>h d (by simp[hd]))
   simp only[pairsN,unitsN,List.map_cons,List.sum_cons]at h1⊢
   by_cases e:c.state=1
   ·have:c.units=1+c.pairs.length:=by unfold Cell.units;rw[if_pos e]
    omega
   ·have h2:=h c (by simp) e
    have:c.units=0:=by unfold Cell.units;rw[if_neg e]
    rw[h2];simp only[List.length_nil];omega
 exact key _ fun c hc hu=>by
  obtain⟨i,hi⟩:=List.getElem?_of_mem hc
  exact(h.bare hi hu).2.2.2.2.2
theorem HX.gc{x:HX}{i:Nat}{y:CS}(hi:x.xs[i]?=some y):x.H.getC i=y.c:=getC_nat (by show(x.xs.map (·.c))[i]?=_;rw[List.getElem?_map,hi];rfl)
theorem shade_H{x:HX}{i:Nat}{y:CS}{e:D}:(x.shade i y e).H=x.H.gray1 i y.c:=by
 unfold HX.shade HX.H Heap.gray1
 simp only[List.map_set]
 rfl
theorem l3marking_q{m:Mem}{a:Nat}{x:HX}(h:Has m (hp a x)):Qt Tryz.prog 132 [ptr a] m (.bool (decide (Marking x.H))):=by
 refine qt_of (fnA_of (fun h=>fn132 (by simp) h) ?_)
 have e:x.hdr.phase=x.H.phase:=rfl
 repeat' (first
  |(refine k_L ?_;first|refine a_p rfl ?_|(refine k_g ?_;first|refine a_gy rfl rfl ?_|refine a_gn rfl rfl ?_|(refine a_gd rfl (fun hb=>?_) (fun hb=>?_)<;>try(exfalso;omega)))|(refine k_l ?_;refine g_l rfl ?_))
  |refine a_n ?_
  |(refine k_V ?_;first|refine v_seq ?_|refine v_reg ?_|refine v_ret ?_))
 all_goals first
  |exact q_T (.inl (by omega))
  |exact q_T (.inr (by omega))
  |exact q_F (fun h=>by rcases h with h|h<;>omega)
  |(refine q_B (fun _ _=>rfl) ?_;simp[Marking];omega)
theorem l3shade_a{a:Nat}{x:HX}{w:Word}(hf:w.kind=2→0≤w.at_∧w.at_<x.H.cells.length)(hg:x.gray.length≤1000000):
 FnA Tryz.prog 128 [ptr a,wa w] (hp a x) (fun v As=>∃z:HX,v=.bool (decide (Marking x.H∧White x.H w))∧As=hp a z∧z.H=x.H.shadeW w∧z.rd=x.rd):=by
 refine fnA_of (fun h=>fn128 (by simp) h) ?_
 have hl:=x.len
 unfold Heap.shadeW
 by_cases hk:w.kind=2
 ·have hat:=hf hk
  obtain⟨y,gy,gc⟩:=HX.atI (x:=x) hat.1 (by omega)
  have ei:((w.at_.toNat:Nat):Int)=w.at_:=by omega
  rw[if_pos hk]
  unfold Heap.shadeH White
  rw[ei,gc]
  repeat' (first
   |(refine k_L ?_;first|refine a_p rfl ?_|(refine k_g ?_;first|refine a_gy rfl rfl ?_|refine a_gn rfl rfl ?_|(refine a_gne rfl (fun hb=>?_) (fun hb=>?_)<;>try(exfalso;omega))|(refine a_gnd rfl (fun hb=>?_) (fun hb=>?_)<;>try(exfalso;omega)))|(refine k_l ?_;refine g_l rfl ?_)|(refine k_i ?_;refine g_i rfl rfl ?_)|(refine k_st ?_;refine g_st rfl rfl rfl rfl ?_)|(refine k_bx ?_;refine a_bx rfl rfl ?_)|(refine k_bl ?_;refine a_bl rfl ?_)|(refine k_q ?_;refine a_q rfl (fun m hm=>l3marking_q (x:=x) (sep_has hm pmt)) ?_)|(refine g_ai rfl rfl (by omega) (fun e'=>?_)))
   |refine a_n ?_
   |(refine k_V ?_;first|refine v_rv ?_|refine v_seq ?_|refine v_reg ?_|refine v_dreg ?_|refine v_skip ?_|refine v_ct rfl ?_|(refine v_cn rfl (fun hb=>?_) (fun hb=>?_)<;>try(exfalso;omega)))
   |refine s_r ?_)
  ·refine fa_r (fun _ _=>rfl) (Pm.ent (fin x)) ⟨_,ret_f (fun h=>absurd h.1 ‹_›),rfl,by rw[if_neg (fun h=>absurd h.1 ‹_›)],rfl⟩
  ·refine fa_r (fun _ _=>rfl) (Pm.ent (fin x)) ⟨_,ret_f (fun h=>absurd h.2.2 ‹_›),rfl,by rw[if_neg (fun h=>absurd h.2 ‹_›)],rfl⟩
  ·refine fa_r (fun _ _=>rfl) (Pm.ent (fin (x.shade w.at_.toNat y e') (e4:=by show x.gray++[w.at_]=x.gray++_;rw[ei]))) ⟨_,ret_t ⟨‹_›,‹_›,‹_›⟩,rfl,by rw[if_pos ⟨‹_›,‹_›⟩];exact shade_H,rfl⟩
 ·rw[if_neg hk]
  repeat' (first
   |(refine k_L ?_;first|refine a_p rfl ?_|(refine k_g ?_;first|refine a_gy rfl rfl ?_|refine a_gn rfl rfl ?_|(refine a_gne rfl (fun hb=>?_) (fun hb=>?_)<;>try(exfalso;omega))|(refine a_gnd rfl (fun hb=>?_) (fun hb=>?_)<;>try(exfalso;omega)))|(refine k_bx ?_;refine a_bx rfl rfl ?_)|(refine k_q ?_;refine a_q rfl (fun m hm=>l3marking_q (x:=x) (sep_has hm pmt)) ?_))
   |refine a_n ?_
   |(refine k_V ?_;first|refine v_rv ?_|refine v_seq ?_|refine v_reg ?_|refine v_dreg ?_|refine v_ct rfl ?_)
   |refine s_r ?_)
  all_goals refine fa_r (fun _ _=>rfl) (Pm.ent (fin x)) ⟨_,ret_f (fun h=>absurd h.2.1 hk),rfl,rfl,rfl⟩
def HX.nil:HX:=⟨0,0,0,[],[],0,0,0,[],0,0,0,0,⟨none,0⟩,⟨none,0⟩,⟨none,0⟩⟩
def Heap.nil:Heap:=⟨0,0,0,[],[],0,0,0,[],0,0,0,0⟩
theorem nil_ent{R:List Asr}:Ent R (HX.nil.body++R):=by
 have e1:Ent R (slA 1 iv ⟨none,0⟩ []::R):=ent_new
 have e2:Ent (slA 1 iv ⟨none,0⟩ []::R) (slA 8 csv ⟨none,0⟩ []::slA 1 iv ⟨none,0⟩ []::R):=ent_new
 have e3:Ent (slA 8 csv ⟨none,0⟩ []::slA 1 iv ⟨none,0⟩ []::R) (clA ⟨none,0⟩ []::slA 1 iv ⟨none,0⟩ []::R):=cl_nil
 have e4:Ent (clA ⟨none,0⟩ []::slA 1 iv ⟨none,0⟩ []::R) (slA 3 wv ⟨none,0⟩ []::clA ⟨none,0⟩ []::slA 1 iv ⟨none,0⟩ []::R):=ent_new
 exact((e1.trans e2).trans e3).trans e4
theorem toI_no{H:Heap}{w:Word}(hk:w.kind≠2):H.toI w= -1:=by
 unfold Heap.toI
 rw[if_neg hk]
theorem shadeL_no:∀(ws:List Word) {H:Heap},(∀w,w∈ws→Formed H w∧¬White H w)→H.shadeL ws=H
 |[],_,_=>rfl
 |w::r,H,h=>by
  have e:H.shadeL (w::r)=(H.shadeW w).shadeL r:=rfl
  rw[e,shadeW_no (h w (by simp)).2 (h w (by simp)).1]
  exact shadeL_no r (fun v hv=>h v (by simp[hv]))
theorem shadeL_snoc(H:Heap)(ws:List Word)(w:Word):H.shadeL (ws++[w])=(H.shadeL ws).shadeW w:=by unfold Heap.shadeL;rw[List.foldl_append];rfl
theorem some_white{H:Heap}{ws:List Word}{w:Word}(hw:∀v,v∈ws++[w]→Formed H v∧(v.kind=2→(H.getC v.at_).state=1)):((∃v,v∈ws++[w]∧White H v)↔(∃v,v∈ws∧White H v)∨White (H.shadeL ws) w):=by
 obtain⟨s,_⟩:=shadeL_ok ws H (fun v hv=>hw v (by simp[hv]))
 constructor
 ·rintro⟨v,hv,hwh⟩
  rcases List.mem_append.1 hv with hv|hv
  ·exact .inl ⟨v,hv,hwh⟩
  ·simp at hv;subst hv
   by_cases e:∃u,u∈ws∧White H u
   ·exact .inl e
   ·right
    rw[shadeL_no ws (fun u hu=>⟨(hw u (by simp[hu])).1,fun h'=>e ⟨u,hu,h'⟩⟩)]
    exact hwh
 ·rintro(⟨v,hv,hwh⟩|hwh)
  ·exact⟨v,by simp[hv],hwh⟩
  ·refine⟨w,by simp,?_⟩
   by_cases e:White H w
   ·exact e
   ·exact absurd hwh (s.white e)
theorem sound_gray{x:HX}(h:Sound x.H):x.gray.length≤1000000∧x.xs.length≤8000∧x.regs.length=16:=by
 have h1:=h.r1.gray
 have h2:=h.r1.cells
 have h3:=h.r1.room
 have h4:=x.len
 have h5:x.H.gray=x.gray:=rfl
 have h6:=h.r1.regs
 have h7:x.H.regs=x.regs:=rfl
 rw[h5]at h1;rw[h7]at h6
 omega
theorem ent_d1{d:D}{xs:List Int}{R:List Asr}(hk:1≤xs.length):Ent (slA 1 iv d xs::R) (slA 1 iv (d.drop 1 1) (xs.drop 1)::R):=ent_h fun m h=>sl_drop iv_len h hk
theorem disj_le{a a' c:Mem}{b:Nat}{k k':Bk}(d:Disj a c)(hb:a b=some k)(l:a'.le (a.upd b k')):Disj a' c:=fun x=>by
 by_cases e:x=b
 ·subst e
  rcases d x with h|h
  ·rw[hb]at h;cases h
  ·exact .inr h
 ·rcases d x with h|h
  ·left
   cases h':a' x with
   |none=>rfl
   |some k2=>
    have:=l x k2 h'
    rw[Mem.upd_ne _ _ e,h]at this;cases this
  ·exact .inr h
theorem a_c0{P:Program}{S:St}{As R:List Asr}{post:St→List Asr→Prop}{r:List I}{x y:Operand}{cd:D}{ys:List CS}{i:Nat}{c:CS}{v:Value}(y':CS)(hi:ys[i]?=some c)(hd:y'.d=⟨none,0⟩)(hp0:y'.c.pairs=[])(hx:lc S x=some (.mm cd.b (cd.o+i*8)))(hy:ev S y=some v)(hn:v.cells.size=8)(hpl:plainCells v.cells.toList=true)(hv:v.cells.toList=csv y')
 (hp:LA P r post S (clA cd (ys.set i y')::R)) (hm:Pk As (clA cd ys) R:=by(fail_if_success apply pk_bad);(repeat(first|exact pk_h|apply pk_t));fail_if_success focus skip):LA P (⟨none,none,.store 8 x y⟩::r) post S As:=
 ⟨fun m hm'=>by
   obtain⟨a,c',dj,rfl,hA,hR⟩:=hm.out m hm'
   obtain⟨row,g1,g2,m',l,s⟩:=up_c0 hi hd hp0 a hA
   rw[←hv]at g2 l
   have g2':cd.o+i*8+8≤row.length:=by simp only[Array.length_toList]at g2;omega
   refine vl_stm hx (un_l g1) hy hn hpl g2' ?_
   have dj':=disj_le dj g1 l
   refine hp.at (m:=m'.un c') ⟨m',c',dj',rfl,s,hR⟩ ?_
   rw[un_upd_l]
   intro x k hk
   cases h:m' x with
   |some k'=>rw[un_l h]at hk;cases hk;exact un_l (l x _ h)
   |none=>
    rw[un_n h]at hk
    have:Disj (a.upd cd.b (.row (wr row (cd.o+i*8) v.cells.toList))) c':=disj_le dj g1 (Mem.le_refl _)
    exact un_r this hk⟩
theorem u_cell{cd:D}{ys:List CS}{i:Nat}{y y':CS}(hi:ys[i]?=some y):UpA (slA 8 csv cd ys) cd.b (cd.o+i*8) (csv y') (slA 8 csv cd (ys.set i y')):=up_sl (j:=0) csv_len hi (by simp[csv_len]) (by rw[wr_all _ _ (by rw[csv_len,csv_len])])
theorem pr_move{ys:List CS}{f u:Nat}{yf yu g:CS}(hf:ys[f]?=some yf)(hu:ys[u]?=some yu)(hfu:f<u)(hd:g.d=⟨none,0⟩)(hp:g.c.pairs=[]){R:List Asr}:Ent (prA ys::R) (prA ((ys.set f yu).set u g)::R):=⟨fun m hm=>by
 obtain⟨a,c,dj,rfl,h1,h2⟩:=hm
 obtain⟨a1,a2,d1,rfl,k1,k2⟩:=star2.1 (pr_out hu h1)
 have hf':(ys.eraseIdx u)[f]?=some yf:=by rw[List.getElem?_eraseIdx,if_pos hfu];exact hf
 obtain⟨b1,b2,d2,rfl,k3,k4⟩:=star2.1 (pr_out hf' k2)
 have hlu:=(List.getElem?_eq_some_iff.1 hu).1
 have hlf:=(List.getElem?_eq_some_iff.1 hf').1
 have s1:prA ((ys.eraseIdx u).set f yu) (a1.un b2):=pr_in hlf (star2.2 ⟨a1,b2,(disj_un.1 d1).2,rfl,k1,k4⟩)
 have e:(ys.eraseIdx u).set f yu=(ys.set f yu).eraseIdx u:=by
  apply List.ext_getElem?
  intro j
  rw[List.getElem?_set,List.getElem?_eraseIdx,List.getElem?_eraseIdx,List.getElem?_set,List.getElem?_set]
  by_cases e1:f=j
  ·subst e1
   rw[if_pos rfl,if_pos hfu,if_pos rfl,if_pos hlf,if_pos (by omega)]
  ·rw[if_neg e1]
   by_cases e2:j<u
   ·rw[if_pos e2,if_pos e2,if_neg e1]
   ·rw[if_neg e2,if_neg e2,if_neg (by omega)]
 rw[e]at s1
 have s2:prA ((ys.set f yu).set u g) (a1.un b2):=pr_in (by simpa using hlu) (star2.2 ⟨emp,a1.un b2,fun _=>.inl rfl,rfl,by
  rw[hp,hd]
  exact⟨.inl ⟨0,rfl,rfl,rfl⟩,fun _ _=>rfl⟩,s1⟩)
 have l:(a1.un b2).le (a1.un (b1.un b2)):=by
  intro x k hk
  cases h:a1 x with
  |some k'=>rw[un_l h]at hk;cases hk;exact un_l h
  |none=>
   rw[un_n h]at hk
   rw[un_n h];exact un_r d2 hk
 have dj':Disj (a1.un b2) c:=fun x=>by
  rcases dj x with h|h
  ·exact .inl (le_none l h)
  ·exact .inr h
 refine⟨(a1.un b2).un c,?_,_,c,dj',rfl,s2,h2⟩
 intro x k hk
 cases h:(a1.un b2) x with
 |some k'=>rw[un_l h]at hk;cases hk;exact un_l (l x _ h)
 |none=>rw[un_n h]at hk;exact un_r dj hk⟩
theorem cl_take{cd:D}{ys:List CS}{k:Nat}{R:List Asr}(hk:k≤ys.length):Ent (clA cd ys::R) (clA cd (ys.take k)::R):=by
 refine⟨fun m hm=>?_⟩
 obtain⟨a,c,dj,rfl,h1,h2⟩:=hm
 obtain⟨a1,a2,d1,rfl,k1,k2⟩:=star2.1 h1
 have k2':star ((ys.take k).map (fun y=>slA 6 pv y.d y.c.pairs)++(ys.drop k).map (fun y=>slA 6 pv y.d y.c.pairs)) a2:=by
  rw[←List.map_append,List.take_append_drop];exact k2
 obtain⟨b1,b2,d2,rfl,k3,k4⟩:=star_append.1 k2'
 have s1:clA cd (ys.take k) (a1.un b1):=star2.2 ⟨a1,b1,(disj_un.1 d1).1,rfl,sl_take csv_len k1 hk,k3⟩
 have l:(a1.un b1).le (a1.un (b1.un b2)):=by rw[←un_assoc];exact le_l _ _
 have dj':Disj (a1.un b1) c:=fun x=>by
  rcases dj x with h|h
  ·exact .inl (le_none l h)
  ·exact .inr h
 refine⟨(a1.un b1).un c,?_,_,c,dj',rfl,s1,h2⟩
 intro x k hk
 cases h:(a1.un b1) x with
 |some k'=>rw[un_l h]at hk;cases hk;exact un_l (l x _ h)
 |none=>rw[un_n h]at hk;exact un_r dj hk
def CS.gone(f:Int):CS:=⟨Cell.gone f,none,0⟩
def CS.zero:CS:=⟨Cell.zero,none,0⟩
end Go.Proofs.YtcjmodomfilagaaGreat.E
