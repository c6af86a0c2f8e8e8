/- A part of the proof. Conditions: none. -/
import Derived.Test.YtpleoapljeffiaaGreatDoorKE15
set_option maxRecDepth 100000
set_option linter.unusedVariables false
namespace Go.Proofs.YtpleoapljeffiaaGreatDoor.E
open Go
noncomputable def e39:Env:=⟨Tryz.prog,[1,5,7,8,10,25,49,56,71],75,[]⟩
abbrev j3(a0:Nat)(a1:Nat)(a2:Nat)(a3:Nat):I:=⟨none,none,.store a0 (.tmp a1) (.const (.slice none a2 a3))⟩
noncomputable def c39:C:=
 .seq (.reg [zT 1 0,⟨some 2,none,.mov (.const (.pointer none))⟩]) (.seq (.reg [z9 13 13 1,⟨some 3,none,.alloc false [.int .i64 0,.int .i64 0,.int .i64 0,.slice none 0 0,.slice none 0 0,.int .i64 0,.int .i64 0,.int .i64 0,.slice none 0 0,.int .i64 0,.int .i64 0,.int .i64 0,.int .i64 0]⟩,z7 13 3 13]) (.seq (.reg [z4 14 3 3,j3 1 14 0 0]) (.seq (.seq (.reg [z4 15 3 1,z5 16 1 15,zE 17 16,zC 18 0])
 (.block 0 (.loop (.seq (.reg [zN 19 18 17]) (.seq (.cond (.tmp 19) .skip (.exit 0)) (.seq (.block 1 (.seq (.reg [z8 20 3 16 18,z9 21 3 20,zk 5 0 0 0,z7 3 5 21]) (.reg [z4 22 3 3,z5 23 1 22,z9 24 3 5,⟨some 25,none,.bslice true 1 3 [.int .i64 0,.int .i64 0,.int .i64 0] [(0,3,.tmp 24)]⟩,jD 26 3 24 0 0 0 23 25,z4 27 3 3,z7 1 27 26]))) (.reg [zG 28 18 1,z3 18 28]))))))) (.seq (.reg [z4 29 4 3,j3
 1 29 0 0]) (.seq (.seq (.reg [z4 30 4 1,z5 31 1 30,zE 32 31,zC 33 0]) (.block 2 (.loop (.seq (.reg [zN 34 33 32]) (.seq (.cond (.tmp 34) .skip (.exit 2)) (.seq (.block 3 (.seq (.reg [z8 35 8 31 33,z9 36 8 35,zX 7 0 0 0 0 0 0 0 0 0,z7 8 7 36]) (.seq (.reg [z9 37 8 7,zX 8 0 0 0 0 0 0 0 0 0,z7 8 8 37]) (.seq (.reg [z4 38 7 8,j3 1 38 0 0]) (.seq (.seq (.reg [z4 39 7 7,z5 40 1 39,zE 41 40,zC 42
 0]) (.block 4 (.loop (.seq (.reg [zN 43 42 41]) (.seq (.cond (.tmp 43) .skip (.exit 4)) (.seq (.block 5 (.seq (.reg [z8 44 6 40 42,z9 45 6 44,zp 10 0 0 0 0 0 0,z7 6 10 45]) (.reg [z4 46 7 8,z5 47 1 46,z9 48 6 10,j2 49 1 6 0 0 0 0 0 0 0 6 48,qn 50 6 48 0 0 0 0 0 0 47 49,z4 51 7 8,z7 1 51 50]))) (.reg [zG 52 42 1,z3 42 52]))))))) (.reg [z4 53 4 3,z5 54 1 53,z9 55 8 8,qx 56 1 8 0 0 0 0 0 0 0 0
 0 0 8 55,qy 57 8 80 0 0 0 0 0 0 0 0 0 54 56,z4 58 4 3,z7 1 58 57])))))) (.reg [zG 59 33 1,z3 33 59]))))))) (.seq (.reg [z4 60 8 3,j3 1 60 0 0]) (.seq (.seq (.reg [z4 61 8 1,z5 62 1 61,zE 63 62,zC 64 0]) (.block 6 (.loop (.seq (.reg [zN 65 64 63]) (.seq (.cond (.tmp 65) .skip (.exit 6)) (.seq (.block 7 (.seq (.reg [z8 66 1 62 64,z5 67 1 66,z3 12 67]) (.reg [z4 68 8 3,z5 69 1 68,z3 70 12,qV
 71 1 1 0 0 1 70,qQ 72 1 8 0 69 71,z4 73 8 3,z7 1 73 72]))) (.reg [zG 74 64 1,z3 64 74]))))))) (.seq (.reg [z3 2 3]) .ret))))))))
theorem t39:Tryz.f39.body.bind (trC e39)=some c39:=by kernel_rfl
theorem r39:Tryz.f39.results.toList.mapM (trR Tryz.prog)=some [.tmp 2]:=by kernel_rfl
theorem fn39{args:List Value}{M:Mem}{post:Value→Mem→Prop}(hl:args.length≤75)(h:VC e39 c39 (fnQ [.tmp 2] post) (initS args 75) M):Fn Tryz.prog 39 args M post:=
 Fn.of' (E:=e39) Tryz.func39 t39 rfl r39 mixed hl h
noncomputable def e92:Env:=⟨Tryz.prog,[],15,[]⟩
noncomputable def c92:C:=
 .seq (.reg [zD 2]) (.seq (.reg [z3 3 0,z6 4 3,z4 5 5 4,z5 6 1 5,zA 7 6 1,z3 8 7,zQ 9 8 0,za 10 8 9,zO 11 8 5 10,zP 12 8 1 11,zt 13 8 12 2,zR 14 8 13,z3 2 14]) .ret)
theorem t92:Tryz.f92.body.bind (trC e92)=some c92:=by kernel_rfl
theorem r92:Tryz.f92.results.toList.mapM (trR Tryz.prog)=some [.tmp 2]:=by kernel_rfl
theorem fn92{args:List Value}{M:Mem}{post:Value→Mem→Prop}(hl:args.length≤15)(h:VC e92 c92 (fnQ [.tmp 2] post) (initS args 15) M):Fn Tryz.prog 92 args M post:=
 Fn.of' (E:=e92) Tryz.func92 t92 rfl r92 mixed hl h
noncomputable def e95:Env:=⟨Tryz.prog,[3,40],44,[(1,20),(3,8),(4,8)]⟩
noncomputable def c95:C:=
 .seq (.reg [zT 3 1,zD 4]) (.seq (.seq (.dreg 20 [z3 5 0,qH 6 92 5,zV 7 6,z3 8 7,zO 9 8 0 3,zP 10 8 1 9,zz 11 8 10 2,zR 12 8 11,z3 13 12,zQ 14 13 0,za 15 13 14,zO 16 13 4 15,zP 17 13 1 16,zO 18 13 2 3,zP 19 13 1 18,qB 20 13 8 17 19,zO 21 13 5 20,zP 22 13 1 21,zz 23 13 22 0,zR 24 13 23]) (.cond (.tmp 24) (.seq (.reg [zD 4]) .ret) .skip)) (.seq (.dreg 8 [z3 25 0,z6 26 25,z4 27 4 26,z5 28 1 27,z4
 29 2 3,z5 30 1 29,z8 31 8 28 30,z4 32 5 31,zn 1 32 1]) (.seq (.dreg 8 [z3 33 0,z3 34 0,z6 35 34,z4 36 8 35,z5 37 1 36,z4 38 2 3,z5 39 1 38,qV 40 1 1 0 0 1 39,qQ 41 1 8 0 37 40,z6 42 33,z4 43 8 42,z7 1 43 41]) (.seq (.reg [zZ 4]) .ret))))
theorem t95:Tryz.f95.body.bind (trC e95)=some c95:=by kernel_rfl
theorem r95:Tryz.f95.results.toList.mapM (trR Tryz.prog)=some [.tmp 4]:=by kernel_rfl
theorem fn95{args:List Value}{M:Mem}{post:Value→Mem→Prop}(hl:args.length≤44)(h:VC e95 c95 (fnQ [.tmp 4] post) (initS args 44) M):Fn Tryz.prog 95 args M post:=
 Fn.of' (E:=e95) Tryz.func95 t95 rfl r95 mixed hl h
noncomputable def e135:Env:=⟨Tryz.prog,[],17,[]⟩
noncomputable def c135:C:=
 .seq (.reg [z3 6 0,z3 7 1,z6 8 6,z4 9 5 8,z7 1 9 7]) (.seq (.reg [z3 10 0,z3 11 2,z6 12 10,z4 13 6 12,z7 1 13 11]) (.reg [z3 14 0,z6 15 14,z4 16 7 15,zn 1 16 0]))
theorem t135:Tryz.f135.body.bind (trC e135)=some c135:=by kernel_rfl
theorem r135:Tryz.f135.results.toList.mapM (trR Tryz.prog)=some []:=by kernel_rfl
theorem fn135{args:List Value}{M:Mem}{post:Value→Mem→Prop}(hl:args.length≤17)(h:VC e135 c135 (fnQ [] post) (initS args 17) M):Fn Tryz.prog 135 args M post:=
 Fn.of' (E:=e135) Tryz.func135 t135 rfl r135 mixed hl h
noncomputable def e103:Env:=⟨Tryz.prog,[],4,[]⟩
noncomputable def c103:C:=
 .reg [z3 2 0,qG 3 135 2 1 0]
theorem t103:Tryz.f103.body.bind (trC e103)=some c103:=by kernel_rfl
theorem r103:Tryz.f103.results.toList.mapM (trR Tryz.prog)=some []:=by kernel_rfl
theorem fn103{args:List Value}{M:Mem}{post:Value→Mem→Prop}(hl:args.length≤4)(h:VC e103 c103 (fnQ [] post) (initS args 4) M):Fn Tryz.prog 103 args M post:=
 Fn.of' (E:=e103) Tryz.func103 t103 rfl r103 mixed hl h
noncomputable def e104:Env:=⟨Tryz.prog,[],30,[]⟩
noncomputable def c104:C:=
 .seq (.reg [z3 2 0,z6 3 2,z4 4 5 3,z5 5 1 4]) (.block 0 (.seq (.reg [zA 7 5 1,z3 6 7]) (.cond (.tmp 6) (.reg [z3 8 0,zM 9 136 8]) (.seq (.reg [zA 11 5 2,z3 10 11]) (.cond (.tmp 10) (.reg [z3 12 0,zM 13 137 12]) (.seq (.reg [zA 15 5 3,z3 14 15]) (.cond (.tmp 14) (.reg [z3 16 0,zM 17 138 16]) (.seq (.reg [zA 19 5 4,z3 18 19]) (.cond (.tmp 18) (.reg [z3 20 0,zM 21 139 20]) (.seq (.reg [zA
 23 5 5,z3 22 23]) (.cond (.tmp 22) (.reg [z3 24 0,zM 25 140 24]) (.seq (.reg [zA 27 5 6,z3 26 27]) (.cond (.tmp 26) (.reg [z3 28 0,zM 29 141 28]) .skip)))))))))))))
theorem t104:Tryz.f104.body.bind (trC e104)=some c104:=by kernel_rfl
theorem r104:Tryz.f104.results.toList.mapM (trR Tryz.prog)=some []:=by kernel_rfl
theorem fn104{args:List Value}{M:Mem}{post:Value→Mem→Prop}(hl:args.length≤30)(h:VC e104 c104 (fnQ [] post) (initS args 30) M):Fn Tryz.prog 104 args M post:=
 Fn.of' (E:=e104) Tryz.func104 t104 rfl r104 mixed hl h
noncomputable def e136:Env:=⟨Tryz.prog,[2],47,[(0,10),(2,11)]⟩
noncomputable def c136:C:=
 .seq (.seq (.dreg 10 [z3 3 0,z6 4 3,z4 5 6 4,z5 6 1 5,z3 7 0,z6 8 7,z4 9 4 8,z5 10 1 9,zE 11 10,zy 12 6 11]) (.cond (.tmp 12) (.seq (.reg [z3 13 0,qG 14 135 13 2 0]) .ret) .skip)) (.seq (.dreg 11 [z3 15 0,z6 16 15,z4 17 4 16,z5 18 1 17,z3 19 0,z6 20 19,z4 21 6 20,z5 22 1 21,z8 23 8 18 22,z9 24 8 23,zX 2 0 0 0 0 0 0 0 0 0,z7 8 2 24]) (.seq (.seq (.reg [z4 25 3 2,z5 26 1 25,zA 27 26 1,z3 28 27,
 zO 29 28 3 2,zP 30 28 1 29,zt 31 28 30 2,zR 32 28 31]) (.cond (.tmp 32) (.reg [z3 33 0,z3 34 0,z6 35 34,z4 36 6 35,z5 37 1 36,q7 38 0 0 0 0 1 2 2 1 37,zL 39 95 33 38]) .skip)) (.reg [z3 40 0,z6 41 40,z4 42 6 41,z5 43 1 42,zG 44 43 1,z6 45 40,z4 46 6 45,z7 1 46 44])))
theorem t136:Tryz.f136.body.bind (trC e136)=some c136:=by kernel_rfl
theorem r136:Tryz.f136.results.toList.mapM (trR Tryz.prog)=some []:=by kernel_rfl
theorem fn136{args:List Value}{M:Mem}{post:Value→Mem→Prop}(hl:args.length≤47)(h:VC e136 c136 (fnQ [] post) (initS args 47) M):Fn Tryz.prog 136 args M post:=
 Fn.of' (E:=e136) Tryz.func136 t136 rfl r136 mixed hl h
noncomputable def e137:Env:=⟨Tryz.prog,[3,6],97,[(2,14),(3,15)]⟩
noncomputable def c137:C:=
 .seq (.seq (.reg [z3 7 0,z6 8 7,z4 9 8 8,z5 10 1 9,zE 11 10,qP 12 11 0]) (.cond (.tmp 12) (.seq (.reg [z3 13 0,z6 14 13,z4 15 8 14,z5 16 1 15,qa 17 1 16 0,z5 18 1 17,z3 2 18]) (.seq (.seq (.dreg 14 [z3 19 0,z6 20 19,z4 21 7 20,z5 22 1 21,z3 23 0,z6 24 23,z4 25 4 24,z5 26 1 25,z3 27 2,z8 28 8 26 27,z4 29 7 28,z5 30 1 29,zE 31 30,zN 32 22 31]) (.cond (.tmp 32) (.seq (.dreg 15 [z3 33 0,z6 34 33,
 z4 35 4 34,z5 36 1 35,z3 37 2,z8 38 8 36 37,z4 39 7 38,z5 40 1 39,z3 41 0,z6 42 41,z4 43 7 42,z5 44 1 43,z8 45 6 40 44,z9 46 6 45,zp 3 0 0 0 0 0 0,z7 6 3 46]) (.seq (.reg [z3 47 0,z6 48 47,z4 49 7 48,z5 50 1 49,zG 51 50 1,z6 52 47,z4 53 7 52,z7 1 53 51]) (.seq (.reg [z3 54 0,z4 55 0 3,z9 56 3 55,zL 57 95 54 56]) (.seq (.reg [z3 58 0,z4 59 3 3,z9 60 3 59,zL 61 95 58 60]) .ret)))) .skip)) (.seq
 (.reg [z3 62 0,z6 63 62,z4 64 4 63,z5 65 1 64,z3 66 2,z8 67 8 65 66,z4 68 5 67,zn 1 68 2]) (.seq (.reg [z3 69 0,z3 70 0,z6 71 70,z4 72 8 71,z5 73 1 72,⟨some 74,none,.slc 1 (.tmp 73) (some (.const (.int .i64 1))) none⟩,z6 75 69,z4 76 8 75,z7 1 76 74]) (.seq (.reg [z3 77 0,z6 78 77,z4 79 7 78,zn 1 79 0]) .ret))))) .skip)) (.seq (.reg [zD 4]) (.seq (.seq (.reg [z3 80 0,z6 81 80,z4 82 3 81,z5 83
 1 82,zE 84 83,zC 85 0]) (.block 0 (.loop (.seq (.reg [zN 86 85 84]) (.seq (.cond (.tmp 86) .skip (.exit 0)) (.seq (.block 1 (.seq (.reg [z8 87 3 83 85,z9 88 3 87,zk 6 0 0 0,z7 3 6 88]) (.seq (.reg [z3 89 0,z9 90 3 6,zL 91 95 89 90]) (.cond (.tmp 91) (.reg [zZ 4]) .skip)))) (.reg [zG 92 85 1,z3 85 92]))))))) (.seq (.reg [z3 93 4,zV 94 93]) (.cond (.tmp 94) (.reg [z3 95 0,qG 96 135 95 3 0])
 .skip))))
theorem t137:Tryz.f137.body.bind (trC e137)=some c137:=by kernel_rfl
theorem r137:Tryz.f137.results.toList.mapM (trR Tryz.prog)=some []:=by kernel_rfl
theorem fn137{args:List Value}{M:Mem}{post:Value→Mem→Prop}(hl:args.length≤97)(h:VC e137 c137 (fnQ [] post) (initS args 97) M):Fn Tryz.prog 137 args M post:=
 Fn.of' (E:=e137) Tryz.func137 t137 rfl r137 mixed hl h
noncomputable def e138:Env:=⟨Tryz.prog,[2],71,[(0,10),(2,11),(4,11),(5,10),(6,10)]⟩
noncomputable def c138:C:=
 .seq (.seq (.dreg 10 [z3 3 0,z6 4 3,z4 5 6 4,z5 6 1 5,z3 7 0,z6 8 7,z4 9 4 8,z5 10 1 9,zE 11 10,zy 12 6 11]) (.cond (.tmp 12) (.seq (.reg [z3 13 0,qG 14 135 13 4 0]) .ret) .skip)) (.seq (.dreg 11 [z3 15 0,z6 16 15,z4 17 4 16,z5 18 1 17,z3 19 0,z6 20 19,z4 21 6 20,z5 22 1 21,z8 23 8 18 22,z9 24 8 23,zX 2 0 0 0 0 0 0 0 0 0,z7 8 2 24]) (.seq (.seq (.reg [z4 25 0 2,z5 26 1 25,zA 27 26 1,z3 28 27,
 zI 29 28 5 2,zF 30 28 1 29,zY 31 28 30 0,zK 32 28 31]) (.cond (.tmp 32) (.seq (.dreg 11 [z3 33 0,z6 34 33,z4 35 1 34,z5 36 1 35,z4 37 7 2,z5 38 1 37,zE 39 38,qT 40 1 39,qF 41 36 40,z6 42 33,z4 43 1 42,z7 1 43 41]) (.dreg 10 [z3 44 0,z6 45 44,z4 46 4 45,z5 47 1 46,z3 48 0,z6 49 48,z4 50 6 49,z5 51 1 50,qz 52 0 0 0 0 0 0 0 0 0,z8 53 8 47 51,z7 8 53 52])) (.dreg 10 [z3 54 0,z6 55 54,z4 56 4 55,z5
 57 1 56,z3 58 0,z6 59 58,z4 60 6 59,z5 61 1 60,z8 62 8 57 61,z4 63 5 62,zn 1 63 0]))) (.reg [z3 64 0,z6 65 64,z4 66 6 65,z5 67 1 66,zG 68 67 1,z6 69 64,z4 70 6 69,z7 1 70 68])))
theorem t138:Tryz.f138.body.bind (trC e138)=some c138:=by kernel_rfl
theorem r138:Tryz.f138.results.toList.mapM (trR Tryz.prog)=some []:=by kernel_rfl
theorem fn138{args:List Value}{M:Mem}{post:Value→Mem→Prop}(hl:args.length≤71)(h:VC e138 c138 (fnQ [] post) (initS args 71) M):Fn Tryz.prog 138 args M post:=
 Fn.of' (E:=e138) Tryz.func138 t138 rfl r138 mixed hl h
noncomputable def e91:Env:=⟨Tryz.prog,[4],25,[]⟩
noncomputable def c91:C:=
 .seq (.reg [zC 2 0]) (.seq (.seq (.reg [z3 5 0,z6 6 5,z4 7 4 6,z5 8 1 7,zE 9 8,zC 10 0]) (.block 0 (.loop (.seq (.reg [zN 11 10 9]) (.seq (.cond (.tmp 11) .skip (.exit 0)) (.seq (.block 1 (.seq (.reg [z3 12 10,z8 13 8 8 10,z9 14 8 13,zX 4 0 0 0 0 0 0 0 0 0,z3 3 12,z7 8 4 14]) (.seq (.reg [z4 15 0 4,z5 16 1 15,zA 17 16 0]) (.cond (.tmp 17) (.seq (.reg [z3 18 3,z3 2 18]) .ret) .skip)))) (.reg
 [zG 19 10 1,z3 10 19]))))))) (.seq (.reg [z3 20 0,z6 21 20,z4 22 4 21,z5 23 1 22,zE 24 23,z3 2 24]) .ret))
theorem t91:Tryz.f91.body.bind (trC e91)=some c91:=by kernel_rfl
theorem r91:Tryz.f91.results.toList.mapM (trR Tryz.prog)=some [.tmp 2]:=by kernel_rfl
theorem fn91{args:List Value}{M:Mem}{post:Value→Mem→Prop}(hl:args.length≤25)(h:VC e91 c91 (fnQ [.tmp 2] post) (initS args 25) M):Fn Tryz.prog 91 args M post:=
 Fn.of' (E:=e91) Tryz.func91 t91 rfl r91 mixed hl h
noncomputable def e139:Env:=⟨Tryz.prog,[],78,[(6,13),(11,15)]⟩
noncomputable def c139:C:=
 .seq (.reg [z3 5 0,zM 6 91 5,z3 2 6]) (.seq (.reg [z3 7 0,z6 8 7,z4 9 4 8,z5 10 1 9,zE 11 10,zi 12 11 1,z3 3 12]) (.seq (.block 0 (.loop (.seq (.seq (.reg [z3 13 3,qm 14 13 0,z3 15 14,zJ 16 15 0,zU 17 15 16,zI 18 15 4 17,zF 19 15 1 18,zJ 20 15 3,zj 21 15 8 19 20,zI 22 15 0 21,zF 23 15 1 22,qC 24 15 23 1,zK 25 15 24]) (.cond (.tmp 25) .skip (.exit 0))) (.block 1 (.reg [z3 26 3,zi 27 26 1,z3 3
 27]))))) (.seq (.seq (.reg [z3 28 2,z3 29 3,qX 30 28 29]) (.cond (.tmp 30) (.seq (.reg [z3 31 0,qG 32 135 31 5 0]) .ret) .skip)) (.seq (.dreg 13 [z3 33 0,z6 34 33,z4 35 4 34,z5 36 1 35,z3 37 2,z3 38 0,z6 39 38,z4 40 4 39,z5 41 1 40,z3 42 3,z8 43 8 41 42,z9 44 8 43,z8 45 8 36 37,z7 8 45 44]) (.seq (.reg [z3 46 0,z6 47 46,z4 48 4 47,z5 49 1 48,z3 50 3,z3 51 2,⟨some 52,none,.build [.int .i64 0,
 .int .i64 0,.int .i64 0,.int .i64 0,.int .i64 0,.int .i64 0,.int .i64 0,.slice none 0 0] [(0,1,.const (.int .i64 2)),(6,1,.tmp 51)]⟩,z8 53 8 49 50,z7 8 53 52]) (.seq (.reg [z3 54 0,z6 55 54,z4 56 3 55,z5 57 1 56,zE 58 57,zC 59 0]) (.block 2 (.loop (.seq (.reg [zN 60 59 58]) (.seq (.cond (.tmp 60) .skip (.exit 2)) (.seq (.block 3 (.seq (.reg [z3 61 59,z3 4 61]) (.dreg 15 [z3 62 0,z6 63 62,z4
 64 3 63,z5 65 1 64,z3 66 4,z3 67 0,z3 68 0,z6 69 68,z4 70 3 69,z5 71 1 70,z3 72 4,z8 73 3 71 72,z9 74 3 73,q6 75 94 67 74,z8 76 3 65 66,z7 3 76 75]))) (.reg [zG 77 59 1,z3 59 77]))))))))))))
theorem t139:Tryz.f139.body.bind (trC e139)=some c139:=by kernel_rfl
theorem r139:Tryz.f139.results.toList.mapM (trR Tryz.prog)=some []:=by kernel_rfl
theorem fn139{args:List Value}{M:Mem}{post:Value→Mem→Prop}(hl:args.length≤78)(h:VC e139 c139 (fnQ [] post) (initS args 78) M):Fn Tryz.prog 139 args M post:=
 Fn.of' (E:=e139) Tryz.func139 t139 rfl r139 mixed hl h
noncomputable def e140:Env:=⟨Tryz.prog,[2],98,[(0,10),(2,17),(3,18),(6,17)]⟩
noncomputable def c140:C:=
 .seq (.seq (.dreg 10 [z3 3 0,z6 4 3,z4 5 6 4,z5 6 1 5,z3 7 0,z6 8 7,z4 9 4 8,z5 10 1 9,zE 11 10,zy 12 6 11]) (.cond (.tmp 12) (.seq (.reg [z3 13 0,z3 14 0,z6 15 14,z4 16 4 15,z5 17 1 16,zE 18 17,qu 19 135 13 6 18]) .ret) .skip)) (.seq (.seq (.dreg 17 [z3 20 0,z6 21 20,z4 22 7 21,z5 23 1 22,z3 24 0,z6 25 24,z4 26 4 25,z5 27 1 26,z3 28 0,z6 29 28,z4 30 6 29,z5 31 1 30,z8 32 8 27 31,z4 33 7 32,z5
 34 1 33,zE 35 34,zN 36 23 35]) (.cond (.tmp 36) (.seq (.dreg 18 [z3 37 0,z6 38 37,z4 39 4 38,z5 40 1 39,z3 41 0,z6 42 41,z4 43 6 42,z5 44 1 43,z8 45 8 40 44,z4 46 7 45,z5 47 1 46,z3 48 0,z6 49 48,z4 50 7 49,z5 51 1 50,z8 52 6 47 51,z9 53 6 52,zp 2 0 0 0 0 0 0,z7 6 2 53]) (.seq (.reg [z3 54 0,z4 55 0 2,z9 56 3 55,zL 57 94 54 56,z4 58 0 2,z7 3 58 57]) (.seq (.reg [z3 59 0,z4 60 3 2,z9 61 3 60,zL
 62 94 59 61,z4 63 3 2,z7 3 63 62]) (.seq (.dreg 17 [z3 64 0,z6 65 64,z4 66 4 65,z5 67 1 66,z3 68 0,z6 69 68,z4 70 6 69,z5 71 1 70,z8 72 8 67 71,z4 73 7 72,z5 74 1 73,z3 75 0,z6 76 75,z4 77 7 76,z5 78 1 77,z9 79 6 2,z8 80 6 74 78,z7 6 80 79]) (.seq (.reg [z3 81 0,z6 82 81,z4 83 7 82,z5 84 1 83,zG 85 84 1,z6 86 81,z4 87 7 86,z7 1 87 85]) .ret))))) .skip)) (.seq (.reg [z3 88 0,z6 89 88,z4 90 6 89,
 z5 91 1 90,zG 92 91 1,z6 93 88,z4 94 6 93,z7 1 94 92]) (.reg [z3 95 0,z6 96 95,z4 97 7 96,zn 1 97 0])))
theorem t140:Tryz.f140.body.bind (trC e140)=some c140:=by kernel_rfl
theorem r140:Tryz.f140.results.toList.mapM (trR Tryz.prog)=some []:=by kernel_rfl
theorem fn140{args:List Value}{M:Mem}{post:Value→Mem→Prop}(hl:args.length≤98)(h:VC e140 c140 (fnQ [] post) (initS args 98) M):Fn Tryz.prog 140 args M post:=
 Fn.of' (E:=e140) Tryz.func140 t140 rfl r140 mixed hl h
noncomputable def e141:Env:=⟨Tryz.prog,[],87,[(5,12),(6,10),(7,25),(8,12)]⟩
noncomputable def c141:C:=
 .seq (.seq (.reg [z3 2 0,z6 3 2,z4 4 6 3,z5 5 1 4,zA 6 5 0]) (.cond (.tmp 6) (.seq (.reg [z3 7 0,qG 8 135 7 0 0]) (.seq (.seq (.reg [z3 9 0,z6 10 9,z4 11 11 10,z5 12 1 11,zc 13 12 1000000000]) (.cond (.tmp 13) (.reg [z3 14 0,z6 15 14,z4 16 11 15,z5 17 1 16,zG 18 17 1,z6 19 14,z4 20 11 19,z7 1 20 18]) .skip)) .ret)) .skip)) (.seq (.reg [z3 21 0,z6 22 21,z4 23 6 22,z5 24 1 23,zi 25 24 1,z6 26
 21,z4 27 6 26,z7 1 27 25]) (.seq (.seq (.dreg 12 [z3 28 0,z6 29 28,z4 30 4 29,z5 31 1 30,z3 32 0,z6 33 32,z4 34 6 33,z5 35 1 34,z8 36 8 31 35,z4 37 0 36,z5 38 1 37,zA 39 38 2]) (.cond (.tmp 39) (.dreg 10 [z3 40 0,z6 41 40,z4 42 4 41,z5 43 1 42,z3 44 0,z6 45 44,z4 46 6 45,z5 47 1 46,qz 48 0 0 0 0 0 0 0 0 0,z8 49 8 43 47,z7 8 49 48]) .skip)) (.seq (.dreg 25 [z3 50 0,z6 51 50,z4 52 6 51,z5 53 1
 52,z3 54 0,z6 55 54,z4 56 4 55,z5 57 1 56,zE 58 57,zi 59 58 1,zy 60 53 59,z3 61 60,zJ 62 61 0,zU 63 61 62,zI 64 61 4 63,zF 65 61 1 64,zJ 66 61 0,zU 67 61 66,zI 68 61 6 67,zF 69 61 1 68,zj 70 61 8 65 69,zI 71 61 0 70,zF 72 61 1 71,zY 73 61 72 0,zK 74 61 73]) (.cond (.tmp 74) (.dreg 12 [z3 75 0,z3 76 0,z6 77 76,z4 78 4 77,z5 79 1 78,z3 80 0,z6 81 80,z4 82 6 81,z5 83 1 82,qc 84 8 79 83,z6 85 75,z4
 86 4 85,z7 1 86 84]) .skip))))
theorem t141:Tryz.f141.body.bind (trC e141)=some c141:=by kernel_rfl
theorem r141:Tryz.f141.results.toList.mapM (trR Tryz.prog)=some []:=by kernel_rfl
theorem fn141{args:List Value}{M:Mem}{post:Value→Mem→Prop}(hl:args.length≤87)(h:VC e141 c141 (fnQ [] post) (initS args 87) M):Fn Tryz.prog 141 args M post:=
 Fn.of' (E:=e141) Tryz.func141 t141 rfl r141 mixed hl h
noncomputable def e64:Env:=⟨Tryz.prog,[],30,[]⟩
noncomputable def c64:C:=
 .seq (.reg [zC 4 0]) (.seq (.seq (.reg [z3 6 1,zA 7 6 0]) (.cond (.tmp 7) (.seq (.reg [zC 4 0]) .ret) .skip)) (.seq (.seq (.reg [z3 8 0,z6 9 8,z4 10 5 9,z5 11 1 10,zA 12 11 0]) (.cond (.tmp 12) (.reg [z3 13 0,zM 14 103 13]) .skip)) (.seq (.reg [zC 5 0]) (.seq (.block 0 (.loop (.seq (.seq (.reg [z3 15 5,z3 16 1,zN 17 15 16,z3 18 17,zJ 19 18 0,zU 20 18 19,zI 21 18 5 20,zF 22 18 1 21,qC 23 18
 22 0,zK 24 18 23]) (.cond (.tmp 24) .skip (.exit 0))) (.block 1 (.seq (.reg [z3 25 0,zM 26 104 25]) (.reg [z3 27 5,zG 28 27 1,z3 5 28])))))) (.seq (.reg [z3 29 5,z3 4 29]) .ret)))))
theorem t64:Tryz.f64.body.bind (trC e64)=some c64:=by kernel_rfl
theorem r64:Tryz.f64.results.toList.mapM (trR Tryz.prog)=some [.tmp 4]:=by kernel_rfl
theorem fn64{args:List Value}{M:Mem}{post:Value→Mem→Prop}(hl:args.length≤30)(h:VC e64 c64 (fnQ [.tmp 4] post) (initS args 30) M):Fn Tryz.prog 64 args M post:=
 Fn.of' (E:=e64) Tryz.func64 t64 rfl r64 mixed hl h
noncomputable def e105:Env:=⟨Tryz.prog,[],14,[]⟩
noncomputable def c105:C:=
 .seq (.reg [zC 2 0]) (.seq (.reg [zC 3 0]) (.seq (.block 0 (.loop (.seq (.seq (.reg [z3 4 0,z6 5 4,z4 6 5 5,z5 7 1 6,zo 8 7 0]) (.cond (.tmp 8) .skip (.exit 0))) (.block 1 (.seq (.reg [z3 9 0,zM 10 104 9]) (.reg [z3 11 3,zG 12 11 1,z3 3 12])))))) (.seq (.reg [z3 13 3,z3 2 13]) .ret)))
theorem t105:Tryz.f105.body.bind (trC e105)=some c105:=by kernel_rfl
theorem r105:Tryz.f105.results.toList.mapM (trR Tryz.prog)=some [.tmp 2]:=by kernel_rfl
theorem fn105{args:List Value}{M:Mem}{post:Value→Mem→Prop}(hl:args.length≤14)(h:VC e105 c105 (fnQ [.tmp 2] post) (initS args 14) M):Fn Tryz.prog 105 args M post:=
 Fn.of' (E:=e105) Tryz.func105 t105 rfl r105 mixed hl h
noncomputable def e65:Env:=⟨Tryz.prog,[],8,[]⟩
noncomputable def c65:C:=
 .seq (.reg [z3 2 0,zM 3 105 2]) (.seq (.reg [z3 4 0,zM 5 103 4]) (.reg [z3 6 0,zM 7 105 6]))
theorem t65:Tryz.f65.body.bind (trC e65)=some c65:=by kernel_rfl
theorem r65:Tryz.f65.results.toList.mapM (trR Tryz.prog)=some []:=by kernel_rfl
theorem fn65{args:List Value}{M:Mem}{post:Value→Mem→Prop}(hl:args.length≤8)(h:VC e65 c65 (fnQ [] post) (initS args 8) M):Fn Tryz.prog 65 args M post:=
 Fn.of' (E:=e65) Tryz.func65 t65 rfl r65 mixed hl h
noncomputable def e99:Env:=⟨Tryz.prog,[8,28],65,[]⟩
noncomputable def c99:C:=
 .seq (.reg [zx 6 0 0]) (.seq (.seq (.reg [z3 9 0,z6 10 9,z4 11 4 10,z5 12 1 11,z3 13 1,z8 14 8 12 13,z4 15 7 14,z5 16 1 15,zE 17 16,zC 18 0]) (.block 0 (.loop (.seq (.reg [zN 19 18 17]) (.seq (.cond (.tmp 19) .skip (.exit 0)) (.seq (.block 1 (.seq (.reg [z3 20 18,z8 21 6 16 18,z9 22 6 21,zp 8 0 0 0 0 0 0,z3 7 20,z7 6 8 22]) (.seq (.reg [z3 23 7,z3 24 2,zW 25 23 24]) (.cond (.tmp 25) (.reg [
 z3 26 6,z9 27 6 8,j2 28 1 6 0 0 0 0 0 0 0 6 27,qn 29 6 48 0 0 0 0 0 0 26 28,z3 6 29]) .skip)))) (.reg [zG 30 18 1,z3 18 30]))))))) (.seq (.reg [z3 31 0,z6 32 31,z4 33 4 32,z5 34 1 33,z3 35 1,z3 36 6,z8 37 8 34 35,z4 38 7 37,z7 1 38 36]) (.seq (.reg [z3 39 0,z6 40 39,z4 41 1 40,z5 42 1 41,zi 43 42 1,z6 44 39,z4 45 1 44,z7 1 45 43]) (.seq (.reg [z3 46 2,z3 47 0,z6 48 47,z4 49 7 48,z5 50 1 49,zN
 51 46 50,z3 52 51,zJ 53 52 0,⟨some 54,some (52,true),.call 133 [.tmp 53]⟩,zJ 55 52 1,qb 56 52 54 55,zK 57 52 56]) (.cond (.tmp 57) (.reg [z3 58 0,z6 59 58,z4 60 7 59,z5 61 1 60,zi 62 61 1,z6 63 58,z4 64 7 63,z7 1 64 62]) .skip)))))
theorem t99:Tryz.f99.body.bind (trC e99)=some c99:=by kernel_rfl
theorem r99:Tryz.f99.results.toList.mapM (trR Tryz.prog)=some []:=by kernel_rfl
theorem fn99{args:List Value}{M:Mem}{post:Value→Mem→Prop}(hl:args.length≤65)(h:VC e99 c99 (fnQ [] post) (initS args 65) M):Fn Tryz.prog 99 args M post:=
 Fn.of' (E:=e99) Tryz.func99 t99 rfl r99 mixed hl h
noncomputable def e133:Env:=⟨Tryz.prog,[],43,[(3,17)]⟩
noncomputable def c133:C:=
 .seq (.reg [zC 2 0]) (.seq (.seq (.reg [z3 3 0,z6 4 3,z4 5 5 4,z5 6 1 5,zA 7 6 2,z3 8 7,zJ 9 8 0,zU 10 8 9,zI 11 8 8 10,zF 12 8 1 11,q5 13 8 12,qU 14 8 13 0,zK 15 8 14]) (.cond (.tmp 15) (.seq (.reg [z3 16 0,z6 17 16,z4 18 8 17,z5 19 1 18,qa 20 1 19 0,z5 21 1 20,z3 2 21]) .ret) .skip)) (.seq (.seq (.dreg 17 [z3 22 0,z6 23 22,z4 24 5 23,z5 25 1 24,zA 26 25 5,z3 27 26,zJ 28 27 0,zU 29 27 28,zI
 30 27 6 29,zF 31 27 1 30,zJ 32 27 0,zU 33 27 32,zI 34 27 4 33,zF 35 27 1 34,q5 36 27 35,qS 37 27 31 36,zK 38 27 37]) (.cond (.tmp 38) (.seq (.reg [z3 39 0,z6 40 39,z4 41 6 40,z5 42 1 41,z3 2 42]) .ret) .skip)) (.seq (.reg [zC 2 (-1)]) .ret)))
theorem t133:Tryz.f133.body.bind (trC e133)=some c133:=by kernel_rfl
theorem r133:Tryz.f133.results.toList.mapM (trR Tryz.prog)=some [.tmp 2]:=by kernel_rfl
theorem fn133{args:List Value}{M:Mem}{post:Value→Mem→Prop}(hl:args.length≤43)(h:VC e133 c133 (fnQ [.tmp 2] post) (initS args 43) M):Fn Tryz.prog 133 args M post:=
 Fn.of' (E:=e133) Tryz.func133 t133 rfl r133 mixed hl h
noncomputable def e98:Env:=⟨Tryz.prog,[5,7],22,[]⟩
noncomputable def c98:C:=
 .seq (.reg [zT 5 2,zD 6]) (.seq (.reg [z3 8 0,z9 9 3 5,zL 10 94 8 9,zk 7 0 0 0,z7 3 7 10]) (.seq (.reg [z4 11 0 7,z5 12 1 11,zA 13 12 2,z3 14 13,zJ 15 14 1,zI 16 14 2 7,zF 17 14 1 16,zj 18 14 1 15 17,zF 19 14 1 18,qA 20 14 19,zK 21 14 20,z3 6 21]) .ret))
theorem t98:Tryz.f98.body.bind (trC e98)=some c98:=by kernel_rfl
theorem r98:Tryz.f98.results.toList.mapM (trR Tryz.prog)=some [.tmp 6]:=by kernel_rfl
theorem fn98{args:List Value}{M:Mem}{post:Value→Mem→Prop}(hl:args.length≤22)(h:VC e98 c98 (fnQ [.tmp 6] post) (initS args 22) M):Fn Tryz.prog 98 args M post:=
 Fn.of' (E:=e98) Tryz.func98 t98 rfl r98 mixed hl h
noncomputable def e59:Env:=⟨Tryz.prog,[8],125,[]⟩
noncomputable def c59:C:=
 .seq (.reg [zC 2 0,zC 3 0]) (.seq (.reg [z3 12 0,zM 13 62 12,z3 4 13]) (.seq (.reg [zC 5 0]) (.seq (.seq (.reg [z3 14 0,z6 15 14,z4 16 4 15,z5 17 1 16,zE 18 17,zC 19 0]) (.block 0 (.loop (.seq (.reg [zN 20 19 18]) (.seq (.cond (.tmp 20) .skip (.exit 0)) (.seq (.block 1 (.seq (.reg [z3 21 19,z3 6 21]) (.seq (.seq (.reg [z3 22 4,z3 23 6,z8 24 1 22 23,z5 25 1 24,zV 26 25]) (.cond (.tmp 26)
 (.exit 1) .skip)) (.seq (.reg [z3 27 0,z6 28 27,z4 29 4 28,z5 30 1 29,z3 31 6,z8 32 8 30 31,z4 33 7 32,z5 34 1 33,zE 35 34,zi 36 35 1,z3 7 36]) (.block 2 (.loop (.seq (.seq (.reg [z3 37 7,qm 38 37 0]) (.cond (.tmp 38) .skip (.exit 2))) (.seq (.block 3 (.seq (.reg [z3 41 0,z6 42 41,z4 43 4 42,z5 44 1 43,z3 45 6,z8 46 8 44 45,z4 47 7 46,z5 48 1 47,z3 49 7,z8 50 6 48 49,z9 51 6 50,zp 8 0 0 0 0 0
 0,z7 6 8 51]) (.seq (.reg [z3 52 0,z6 53 52,z4 54 4 53,z5 55 1 54,z3 56 6,z8 57 8 55 56,z4 58 2 57,z5 59 1 58,z3 9 59]) (.seq (.reg [z3 60 9,qe 61 60 1,qP 62 61 0,z3 63 62,zJ 64 63 0,zJ 65 63 4,zI 66 63 0 8,qk 67 63 3 66,⟨some 68,some (63,true),.call 98 [.tmp 64,.tmp 65,.tmp 67]⟩,zK 69 63 68,z3 70 69,zQ 71 70 9,⟨some 72,some (70,false),.bin .and (.tmp 71) (.const (.int .i64 2))⟩,qt 73 70 72 0,
 zQ 74 70 73,zJ 75 74 0,zJ 76 74 4,zI 77 74 3 8,qk 78 74 3 77,⟨some 79,some (74,true),.call 98 [.tmp 75,.tmp 76,.tmp 78]⟩,q8 80 70 74 79,zR 81 70 80]) (.cond (.tmp 81) (.seq (.reg [z3 82 0,z3 83 6,z3 84 7,qI 85 99 82 83 84]) (.reg [z3 86 5,zG 87 86 1,z3 5 87])) .skip))))) (.reg [z3 39 7,zi 40 39 1,z3 7 40]))))))))) (.reg [zG 88 19 1,z3 19 88]))))))) (.seq (.reg [zC 10 0]) (.seq (.seq (.reg [
 z3 89 0,z6 90 89,z4 91 4 90,z5 92 1 91,zE 93 92,zC 94 0]) (.block 4 (.loop (.seq (.reg [zN 95 94 93]) (.seq (.cond (.tmp 95) .skip (.exit 4)) (.seq (.block 5 (.seq (.reg [z3 96 94,z3 11 96]) (.seq (.reg [z3 97 0,z6 98 97,z4 99 4 98,z5 100 1 99,z3 101 11,z8 102 8 100 101,z4 103 3 102,z5 104 1 103,zA 105 104 1,z3 106 105,zJ 107 106 4,zJ 108 106 11,zj 109 106 1 107 108,zF 110 106 1 109,qA 111 106
 110,zK 112 106 111]) (.cond (.tmp 112) (.seq (.reg [z3 113 0,z6 114 113,z4 115 4 114,z5 116 1 115,z3 117 11,z8 118 8 116 117,z4 119 3 118,zn 1 119 2]) (.reg [z3 120 10,zG 121 120 1,z3 10 121])) .skip)))) (.reg [zG 122 94 1,z3 94 122]))))))) (.seq (.reg [z3 123 5,z3 124 10,z3 2 123,z3 3 124]) .ret))))))
theorem t59:Tryz.f59.body.bind (trC e59)=some c59:=by kernel_rfl
theorem r59:Tryz.f59.results.toList.mapM (trR Tryz.prog)=some [.tmp 2,.tmp 3]:=by kernel_rfl
theorem fn59{args:List Value}{M:Mem}{post:Value→Mem→Prop}(hl:args.length≤125)(h:VC e59 c59 (fnQ [.tmp 2,.tmp 3] post) (initS args 125) M):Fn Tryz.prog 59 args M post:=
 Fn.of' (E:=e59) Tryz.func59 t59 rfl r59 mixed hl h
end Go.Proofs.YtpleoapljeffiaaGreatDoor.E
set_option linter.unusedSimpArgs false
set_option maxHeartbeats 8000000
namespace Go.Proofs.YtpleoapljeffiaaGreatDoor.E
open Go
open Classical
theorem plain_flat{α:Type}{f:α→List Value}(h:∀x,plainCells (f x)=true):∀xs:List α,plainCells (xs.flatMap f)=true
 |[]=>rfl
 |x::r=>by
  have h1:=h x
  have h2:=plain_flat h r
  unfold plainCells at*
  rw[List.flatMap_cons,List.all_append,h1,h2];rfl
theorem prA_snoc{ys:List CS}{y:CS}{m:Mem}(h:star [prA ys,slA 6 pv y.d y.c.pairs] m):prA (ys++[y]) m:=by
 unfold prA
 rw[List.map_append]
 obtain⟨a,b,d,e,h1,h2⟩:=star2.1 h
 refine star_append.2 ⟨a,b,d,e,h1,?_⟩
 exact⟨b,emp,disj_emp _,(un_emp _).symm,h2,rfl⟩
theorem cl_snoc{cd:D}{ys:List CS}{y:CS}{R:List Asr}:Ent (slA 8 csv cd (ys++[y])::prA ys::slA 6 pv y.d y.c.pairs::R) (clA cd (ys++[y])::R):=ent_of fun m h=>by
 obtain⟨a,b,d,rfl,h1,h2⟩:=h
 have h2:star ([prA ys,slA 6 pv y.d y.c.pairs]++R) b:=h2
 obtain⟨c,e,d2,rfl,h3,h4⟩:=star_append.1 h2
 refine⟨a.un c,e,?_,(un_assoc _ _ _).symm,star2.2 ⟨a,c,(disj_un.1 d).1,rfl,h1,prA_snoc h3⟩,h4⟩
 exact disj_un'.2 ⟨(disj_un.1 d).2,d2⟩
theorem cl_nil{R:List Asr}{d:D}:Ent (slA 8 csv d []::R) (clA d []::R):=ent_h fun m h=>star2.2 ⟨m,emp,disj_emp _,(un_emp _).symm,h,rfl⟩
theorem Has.sls{m:Mem}{x:HX}(h:Has m x.body):Sl m 3 wv (.slice x.rd.a x.regs.length x.rd.cap) x.regs∧Sl m 1 iv (.slice x.gd.a x.gray.length x.gd.cap) x.gray∧∀y,y∈x.xs→Sl m 6 pv (.slice y.d.a y.c.pairs.length y.d.cap) y.c.pairs:=
 ⟨h.b.regs,h.b.gray,h.b.cl.ps⟩
def twH(x:HX)(rd gd cd:D)(nc:Nat):Hdr:=⟨x.room,x.used,x.born,rd,x.regs.length,cd,nc,x.phase,x.hand,x.sub,gd,x.gray.length,x.per,x.start,x.rounds,x.forced⟩
theorem twin_a{m:Mem}{x:HX}(h:Has m x.body)(h1:R1 x.H)(h2:R2 x.H):FnA Tryz.prog 44 [x.v] [ro m] (fun v As=>∃b,∃y:HX,v=ptr b∧As=hp b y++[ro m]∧y.H=x.H):=by
 have hb0:=h.b
 have hl:=x.len
 have g1:x.regs.length=16:=h1.regs
 have g2:=h1.room
 have g3:=h1.cells
 have g4:x.gray.length≤x.H.cells.length:=h1.gray
 refine fnA_of (fun h=>fn44 (by simp) h) ?_
 refine v_seq (v_reg (a_nwh x rfl (fun b=>?_)))
 repeat' (first|refine xx ?_|(refine k_L ?_;(refine a_ns (f:=wv) [] (fun _=>rfl) rfl rfl rfl (by omega) (fun e he=>?_);obtain⟨ea,ec⟩:=e;simp only at he;subst he))|fail)
 refine a_as (f:=wv) (xs:=[]) (zs:=x.regs) (e:=⟨ea,0⟩) (g:=x.rd) (by(fail_if_success apply pk_bad);(repeat(first|exact pk_h|apply pk_t));fail_if_success focus skip) wv_len (by omega) rfl rfl (fun m' hm'=>(has_g h hm').sls.1) (plain_flat (fun _=>rfl) _) (by simp;omega) (fun rd=>?_)
 repeat' (first|refine xx ?_|(refine k_L ?_;(refine a_ns (f:=iv) [] (fun _=>rfl) rfl rfl rfl (by omega) (fun e he=>?_);obtain⟨fa,fc⟩:=e;simp only at he;subst he))|fail)
 refine a_as (f:=iv) (xs:=[]) (zs:=x.gray) (e:=⟨fa,0⟩) (g:=x.gd) (by(fail_if_success apply pk_bad);(repeat(first|exact pk_h|apply pk_t));fail_if_success focus skip) iv_len (by omega) rfl rfl (fun m' hm'=>(has_g h hm').sls.2.1) (plain_flat (fun _=>rfl) _) (by simp;omega) (fun gd=>?_)
 repeat' (first|refine xx ?_|fail)
 refine a_mk (f:=csv) (n:=0) (k:=(x.xs.length:Int)) ⟨Cell.zero,none,0⟩ csv_len rfl rfl rfl (by omega) (by omega) (fun cd hcd=>?_)
 repeat' (first|refine xx ?_|fail)
 refine VA.ent (Bs:=[hdA b (twH x rd gd cd 0),slA 3 wv rd x.regs,slA 1 iv gd x.gray,clA cd [],ro m]) ?_ ?_
 ·refine Ent.trans (Pm.ent (As1:=[slA 8 csv cd [],hdA b (twH x rd gd cd 0),slA 3 wv rd x.regs,slA 1 iv gd x.gray,ro m]) pmt) ?_
  exact cl_nil.trans (Pm.ent pmt)
 refine g_range x.xs.length (fun q:List CS×D=>[(1,.v (ptr b)),(22,.v (.slice x.cd.a x.xs.length x.cd.cap))]) (fun q=>[hdA b (twH x rd gd q.2 q.1.length),slA 3 wv rd x.regs,slA 1 iv gd x.gray,clA q.2 q.1,ro m]) (fun i q=>q.1.length=i∧q.1.map (·.c)=(x.xs.take i).map (·.c)) (([],cd):List CS×D) ⟨rfl,rfl⟩ (fun i q hi hv=>?_) (fun q hv=>?_)
 ·obtain⟨ys,cd⟩:=q
  obtain⟨hv1,hv2⟩:=hv
  simp only at hv1 hv2
  obtain⟨y,gy,gc⟩:=HX.at hi
  have hym:y∈x.xs:=List.mem_of_getElem? gy
  have hpl:=h2.pl (List.mem_of_getElem? gc)
  repeat' (first|refine xx ?_|(refine k_L ?_;(refine a_ns (f:=pv) [] (fun _=>rfl) rfl rfl rfl (by omega) (fun e he=>?_);obtain⟨pa,pc⟩:=e;simp only at he;subst he))|fail)
  refine a_as (f:=pv) (xs:=[]) (zs:=y.c.pairs) (e:=⟨pa,0⟩) (g:=y.d) (by(fail_if_success apply pk_bad);(repeat(first|exact pk_h|apply pk_t));fail_if_success focus skip) pv_len (by omega) rfl rfl (fun m' hm'=>(has_g h hm').sls.2.2 y hym) (plain_flat (fun _=>rfl) _) (by simp;omega) (fun pd=>?_)
  repeat' (first|refine xx ?_|fail)
  refine LA.ent (Bs:=[slA 8 csv cd ys,prA ys,slA 6 pv pd y.c.pairs,hdA b (twH x rd gd cd ys.length),slA 3 wv rd x.regs,slA 1 iv gd x.gray,ro m]) ?_ ?_
  ·refine Ent.trans (Pm.ent (As1:=[clA cd ys,slA 6 pv pd y.c.pairs,hdA b (twH x rd gd cd ys.length),slA 3 wv rd x.regs,slA 1 iv gd x.gray,ro m]) pmt) ?_
   exact cl_open.trans (Pm.ent pmt)
  repeat' (first|refine xx ?_|(refine xy ?_ ?_<;>intro hb<;>try(exfalso;omega))|fail)
  refine g_ap (⟨y.c,pd.a,pd.cap⟩:CS) csv_len rfl rfl rfl (by omega) (hb:=by first|omega|(simp only;omega)) (fun cd'=>?_)
  repeat' (first|refine xx ?_|fail)
  refine r_nx ((ys++[(⟨y.c,pd.a,pd.cap⟩:CS)],cd'):List CS×D) ⟨by simp[hv1],?_⟩ (he:=?_)
  ·rw[List.map_append,hv2,List.take_add_one,gy];simp
  ·refine Ent.trans (Pm.ent (As1:=[slA 8 csv cd' (ys++[(⟨y.c,pd.a,pd.cap⟩:CS)]),prA ys,slA 6 pv pd y.c.pairs,hdA b (twH x rd gd cd' (ys++[(⟨y.c,pd.a,pd.cap⟩:CS)]).length),slA 3 wv rd x.regs,slA 1 iv gd x.gray,ro m]) pmt) ?_
   exact(cl_snoc (y:=⟨y.c,pd.a,pd.cap⟩)).trans (Pm.ent pmt)
 ·obtain⟨ys,cd⟩:=q
  obtain⟨hv1,hv2⟩:=hv
  simp only at hv1 hv2
  rw[List.take_of_length_le (Nat.le_refl _)]at hv2
  repeat' (first|refine xx ?_|fail)
  refine fa_r (As':=hp b (⟨x.room,x.used,x.born,x.regs,ys,x.phase,x.hand,x.sub,x.gray,x.per,x.start,x.rounds,x.forced,rd,cd,gd⟩:HX)++[ro m]) (fun _ _=>rfl) (Pm.ent pmt) ⟨b,_,rfl,rfl,?_⟩
  unfold HX.H
  simp only[hv2]
theorem up_all{b:Nat}{vs ws:List Value}(h:ws.length=vs.length):UpA (bx b vs) b 0 ws (bx b ws):=up_bx (by omega) ⟨by rw[wr_all _ _ h.symm]⟩
theorem u_rd0{a:Nat}{h:Hdr}:UpA (hdA a h) a 3 [.slice none 0 0] (hdA a (h.s_rd ⟨none,0⟩ 0)):=u_rd (d:=⟨none,0⟩)
theorem u_cd0{a:Nat}{h:Hdr}:UpA (hdA a h) a 4 [.slice none 0 0] (hdA a (h.s_cd ⟨none,0⟩ 0)):=u_cd (d:=⟨none,0⟩)
theorem u_gd0{a:Nat}{h:Hdr}:UpA (hdA a h) a 8 [.slice none 0 0] (hdA a (h.s_gd ⟨none,0⟩ 0)):=u_gd (d:=⟨none,0⟩)
def cpH(x:HX)(rd:D)(nr:Nat)(cd:D)(nc:Nat)(gd:D)(ng:Nat):Hdr:=⟨x.room,x.used,x.born,rd,nr,cd,nc,x.phase,x.hand,x.sub,gd,ng,x.per,x.start,x.rounds,x.forced⟩
theorem l1copy_a{m:Mem}{x:HX}(h:Has m x.body)(h1:R1 x.H)(h2:R2 x.H):FnA Tryz.prog 39 [x.v] [ro m] (fun v As=>∃b,∃y:HX,v=ptr b∧As=hp b y++[ro m]∧y.H=x.H):=by
 have hl:=x.len
 have g1:x.regs.length=16:=h1.regs
 have g2:=h1.room
 have g3:=h1.cells
 have g4:x.gray.length≤x.H.cells.length:=h1.gray
 refine fnA_of (fun h=>fn39 (by simp) h) ?_
 repeat' (first|refine xx ?_|(refine k_L ?_;(refine a_nz (fun b=>?_)))|fail)
 refine a_st (As':=[bx b x.row,ro m]) rfl rfl rfl rfl (up_h (up_all rfl)) ?_
 refine LA.ent (Bs:=[hdA b x.hdr,ro m]) (Ent.refl _) ?_
 repeat' (first|refine xx ?_|(refine k_L ?_;(refine a_st rfl rfl rfl rfl (by exact up_h u_rd0) ?_))|fail)
 refine VA.ent (ent_new (f:=wv) (size:=3)) ?_
 refine g_range x.regs.length (fun q:List Word×D=>[(1,.box x.row),(3,.v (ptr b)),(16,.v (.slice x.rd.a x.regs.length x.rd.cap))]) (fun q=>[hdA b (cpH x q.2 q.1.length x.cd x.xs.length x.gd x.gray.length),slA 3 wv q.2 q.1,ro m]) (fun i q=>q.1=x.regs.take i) (([],⟨none,0⟩):List Word×D) rfl (fun i q hi hv=>?_) (fun q hv=>?_)
 ·obtain⟨ws,rd⟩:=q
  simp only at hv
  subst hv
  obtain⟨w,gw⟩:∃w,x.regs[i]?=some w:=⟨_,List.getElem?_eq_getElem hi⟩
  repeat' (first|refine xx ?_|fail)
  refine g_ap w wv_len rfl rfl rfl (by omega) (hb:=by simp only[List.length_take];omega) (fun rd'=>?_)
  repeat' (first|refine xx ?_|fail)
  exact r_nx ((x.regs.take i++[w],rd'):List Word×D) (by rw[List.take_add_one,gw];rfl)
 obtain⟨ws,rd⟩:=q
 simp only[List.take_of_length_le (Nat.le_refl _)]at hv
 subst hv
 repeat' (first|refine xx ?_|(refine k_L ?_;(refine a_st rfl rfl rfl rfl (by exact up_h u_cd0) ?_))|fail)
 refine VA.ent (ent_new (f:=csv) (size:=8)) ?_
 refine VA.ent (cl_nil (d:=⟨none,0⟩)) ?_
 refine g_range x.xs.length (fun q:List CS×D=>[(1,.box x.row),(3,.v (ptr b)),(31,.v (.slice x.cd.a x.xs.length x.cd.cap))]) (fun q=>[hdA b (cpH x rd x.regs.length q.2 q.1.length x.gd x.gray.length),slA 3 wv rd x.regs,clA q.2 q.1,ro m]) (fun i q=>q.1.length=i∧q.1.map (·.c)=(x.xs.take i).map (·.c)) (([],⟨none,0⟩):List CS×D) ⟨rfl,rfl⟩ (fun i q hi hv=>?_) (fun q hv=>?_)
 ·obtain⟨ys,cd⟩:=q
  obtain⟨hv1,hv2⟩:=hv
  simp only at hv1 hv2
  obtain⟨y,gy,gc⟩:=HX.at hi
  have hpl:=h2.pl (List.mem_of_getElem? gc)
  repeat' (first|refine xx ?_|fail)
  refine VA.ent (Bs:=[slA 8 csv cd ys,prA ys,hdA b (cpH x rd x.regs.length cd ys.length x.gd x.gray.length),slA 3 wv rd x.regs,ro m]) ?_ ?_
  ·refine Ent.trans (Pm.ent (As1:=[clA cd ys,hdA b (cpH x rd x.regs.length cd ys.length x.gd x.gray.length),slA 3 wv rd x.regs,ro m]) pmt) ?_
   exact cl_open.trans (Pm.ent pmt)
  refine VA.ent (ent_new (f:=pv) (size:=6)) ?_
  refine g_range y.c.pairs.length (fun q:List Pair×D=>[(1,.box x.row),(3,.v (ptr b)),(31,.v (.slice x.cd.a x.xs.length x.cd.cap)),(33,.v (.int .i64 i)),(32,.v (.int .i64 x.xs.length)),(8,.box [.int .i64 y.c.state,.int .i64 y.c.kind,.int .i64 y.c.weak,.int .i64 y.c.last,.int .i64 y.c.born,.int .i64 y.c.color,.int .i64 y.c.to,.slice q.2.a q.1.length q.2.cap]),(40,.v (.slice y.d.a y.c.pairs.length y.d.cap))]) (fun q=>[slA 6 pv q.2 q.1,slA 8 csv cd ys,prA ys,hdA b (cpH x rd x.regs.length cd ys.length x.gd x.gray.length),slA 3 wv rd x.regs,ro m]) (fun k q=>q.1=y.c.pairs.take k) (([],⟨none,0⟩):List Pair×D) rfl (fun k q hk hw=>?_) (fun q hw=>?_)
  ·obtain⟨ps,pd⟩:=q
   simp only at hw
   subst hw
   obtain⟨p,gp⟩:∃p,y.c.pairs[k]?=some p:=⟨_,List.getElem?_eq_getElem hk⟩
   repeat' (first|refine xx ?_|fail)
   refine g_ap p pv_len rfl rfl rfl (by omega) (hb:=by simp only[List.length_take];omega) (fun pd'=>?_)
   repeat' (first|refine xx ?_|fail)
   exact r_nx ((y.c.pairs.take k++[p],pd'):List Pair×D) (by rw[List.take_add_one,gp];rfl)
  obtain⟨ps,pd⟩:=q
  simp only[List.take_of_length_le (Nat.le_refl _)]at hw
  subst hw
  repeat' (first|refine xx ?_|fail)
  refine g_ap (⟨y.c,pd.a,pd.cap⟩:CS) csv_len rfl rfl rfl (by omega) (hb:=by first|omega|(simp only;omega)) (fun cd'=>?_)
  repeat' (first|refine xx ?_|fail)
  refine r_nx ((ys++[(⟨y.c,pd.a,pd.cap⟩:CS)],cd'):List CS×D) ⟨by simp[hv1],?_⟩ (he:=?_)
  ·rw[List.map_append,hv2,List.take_add_one,gy];simp
  ·refine Ent.trans (Pm.ent (As1:=[slA 8 csv cd' (ys++[(⟨y.c,pd.a,pd.cap⟩:CS)]),prA ys,slA 6 pv pd y.c.pairs,hdA b (cpH x rd x.regs.length cd' (ys++[(⟨y.c,pd.a,pd.cap⟩:CS)]).length x.gd x.gray.length),slA 3 wv rd x.regs,ro m]) pmt) ?_
   exact(cl_snoc (y:=⟨y.c,pd.a,pd.cap⟩)).trans (Pm.ent pmt)
 obtain⟨ys,cd⟩:=q
 obtain⟨hv1,hv2⟩:=hv
 simp only at hv1 hv2
 rw[List.take_of_length_le (Nat.le_refl _)]at hv2
 repeat' (first|refine xx ?_|(refine k_L ?_;(refine a_st rfl rfl rfl rfl (by exact up_h u_gd0) ?_))|fail)
 refine VA.ent (ent_new (f:=iv) (size:=1)) ?_
 refine g_range x.gray.length (fun q:List Int×D=>[(1,.box x.row),(3,.v (ptr b)),(62,.v (.slice x.gd.a x.gray.length x.gd.cap))]) (fun q=>[hdA b (cpH x rd x.regs.length cd ys.length q.2 q.1.length),slA 3 wv rd x.regs,clA cd ys,slA 1 iv q.2 q.1,ro m]) (fun i q=>q.1=x.gray.take i) (([],⟨none,0⟩):List Int×D) rfl (fun i q hi hv=>?_) (fun q hv=>?_)
 ·obtain⟨ws,gd⟩:=q
  simp only at hv
  subst hv
  obtain⟨w,gw⟩:∃w,x.gray[i]?=some w:=⟨_,List.getElem?_eq_getElem hi⟩
  repeat' (first|refine xx ?_|fail)
  refine g_ap w iv_len rfl rfl rfl (by omega) (hb:=by simp only[List.length_take];omega) (fun gd'=>?_)
  repeat' (first|refine xx ?_|fail)
  exact r_nx ((x.gray.take i++[w],gd'):List Int×D) (by rw[List.take_add_one,gw];rfl)
 obtain⟨ws,gd⟩:=q
 simp only[List.take_of_length_le (Nat.le_refl _)]at hv
 subst hv
 repeat' (first|refine xx ?_|fail)
 refine fa_r (As':=hp b (⟨x.room,x.used,x.born,x.regs,ys,x.phase,x.hand,x.sub,x.gray,x.per,x.start,x.rounds,x.forced,rd,cd,gd⟩:HX)++[ro m]) (fun _ _=>rfl) (Pm.ent pmt) ⟨b,_,rfl,rfl,?_⟩
 unfold HX.H
 simp only[hv2]
theorem pairsN_units{H:Heap}(h:R2 H):pairsN H.cells≤unitsN H.cells:=by
 have key:∀cs:List Cell,(∀c,c∈cs→c.state≠1→c.pairs=[])→pairsN cs≤unitsN cs:=by
  intro cs
  induction cs with
  |nil=>intro _;simp[pairsN,unitsN]
  |cons c r ih=>
   intro h
   have h1:=ih (fun d hd=>h d (by simp[hd]))
   simp only[pairsN,unitsN,List.map_cons,List.sum_cons]at h1⊢
   by_cases e:c.state=1
   ·have:c.units=1+c.pairs.length:=by unfold Cell.units;rw[if_pos e]
    omega
   ·have h2:=h c (by simp) e
    have:c.units=0:=by unfold Cell.units;rw[if_neg e]
    rw[h2];simp only[List.length_nil];omega
 exact key _ fun c hc hu=>by
  obtain⟨i,hi⟩:=List.getElem?_of_mem hc
  exact(h.bare hi hu).2.2.2.2.2
theorem HX.gc{x:HX}{i:Nat}{y:CS}(hi:x.xs[i]?=some y):x.H.getC i=y.c:=getC_nat (by show(x.xs.map (·.c))[i]?=_;rw[List.getElem?_map,hi];rfl)
theorem shade_H{x:HX}{i:Nat}{y:CS}{e:D}:(x.shade i y e).H=x.H.gray1 i y.c:=by
 unfold HX.shade HX.H Heap.gray1
 simp only[List.map_set]
 rfl
theorem shadeH_a{a:Nat}{x:HX}{i:Nat}(hi:i<x.xs.length)(hg:x.gray.length≤1000000):FnA Tryz.prog 130 [ptr a,.int .i64 i] (hp a x) (fun v As=>∃z:HX,As=hp a z∧z.H=x.H.shadeH i∧z.rd=x.rd):=by
 obtain⟨y,gy,_⟩:=HX.at hi
 refine(shade_a gy hg).mono fun v As ⟨z,h1,h2⟩=>⟨z,h1,?_⟩
 unfold Heap.shadeH
 rw[HX.gc gy]
 split at h2
 ·rename_i c
  obtain⟨e,rfl⟩:=h2
  rw[if_pos c];exact⟨shade_H,rfl⟩
 ·rename_i c
  subst h2
  rw[if_neg c];exact⟨rfl,rfl⟩
theorem l3marking_q{m:Mem}{a:Nat}{x:HX}(h:Has m (hp a x)):Qt Tryz.prog 92 [ptr a] m (.bool (decide (Marking x.H))):=by
 refine qt_of (fnA_of (fun h=>fn92 (by simp) h) ?_)
 have e:x.hdr.phase=x.H.phase:=rfl
 repeat' (first|refine xx ?_|(refine xy ?_ ?_<;>intro hb<;>try(exfalso;omega))|fail)
 all_goals first
  |exact q_T (.inl (by omega))
  |exact q_T (.inr (by omega))
  |exact q_F (fun h=>by rcases h with h|h<;>omega)
  |(refine q_B (fun _ _=>rfl) ?_;simp[Marking];omega)
theorem l3shade_a{a:Nat}{x:HX}{w:Word}(hf:w.kind=2→0≤w.at_∧w.at_<x.H.cells.length)(hg:x.gray.length≤1000000):
 FnA Tryz.prog 95 [ptr a,wa w] (hp a x) (fun v As=>∃z:HX,v=.bool (decide (Marking x.H∧White x.H w))∧As=hp a z∧z.H=x.H.shadeW w∧z.rd=x.rd):=by
 refine fnA_of (fun h=>fn95 (by simp) h) ?_
 have hl:=x.len
 unfold Heap.shadeW
 by_cases hk:w.kind=2
 ·have hat:=hf hk
  obtain⟨y,gy,gc⟩:=HX.atI (x:=x) hat.1 (by omega)
  have ei:((w.at_.toNat:Nat):Int)=w.at_:=by omega
  rw[if_pos hk]
  unfold Heap.shadeH White
  rw[ei,gc]
  repeat' (first|refine xx ?_|(refine xy ?_ ?_<;>intro hb<;>try(exfalso;omega))|(refine k_L ?_;first|(refine k_q ?_;refine a_q rfl (fun m hm=>l3marking_q (x:=x) (sep_has hm pmt)) ?_)|(refine g_ai rfl rfl (by omega) (fun e'=>?_)))|fail)
  ·refine fa_r (fun _ _=>rfl) (Pm.ent (fin x)) ⟨_,ret_f (fun h=>absurd h.1 ‹_›),rfl,by rw[if_neg (fun h=>absurd h.1 ‹_›)],rfl⟩
  ·refine fa_r (fun _ _=>rfl) (Pm.ent (fin x)) ⟨_,ret_f (fun h=>absurd h.2.2 ‹_›),rfl,by rw[if_neg (fun h=>absurd h.2 ‹_›)],rfl⟩
  ·refine fa_r (fun _ _=>rfl) (Pm.ent (fin (x.shade w.at_.toNat y e') (e4:=by show x.gray++[w.at_]=x.gray++_;rw[ei]))) ⟨_,ret_t ⟨‹_›,‹_›,‹_›⟩,rfl,by rw[if_pos ⟨‹_›,‹_›⟩];exact shade_H,rfl⟩
 ·rw[if_neg hk]
  repeat' (first|refine xx ?_|(refine xy ?_ ?_<;>intro hb<;>try(exfalso;omega))|(refine k_L ?_;(refine k_q ?_;refine a_q rfl (fun m hm=>l3marking_q (x:=x) (sep_has hm pmt)) ?_))|fail)
  all_goals refine fa_r (fun _ _=>rfl) (Pm.ent (fin x)) ⟨_,ret_f (fun h=>absurd h.2.1 hk),rfl,rfl,rfl⟩
def HX.nil:HX:=⟨0,0,0,[],[],0,0,0,[],0,0,0,0,⟨none,0⟩,⟨none,0⟩,⟨none,0⟩⟩
def Heap.nil:Heap:=⟨0,0,0,[],[],0,0,0,[],0,0,0,0⟩
theorem nil_ent{R:List Asr}:Ent R (HX.nil.body++R):=by
 have e1:Ent R (slA 1 iv ⟨none,0⟩ []::R):=ent_new
 have e2:Ent (slA 1 iv ⟨none,0⟩ []::R) (slA 8 csv ⟨none,0⟩ []::slA 1 iv ⟨none,0⟩ []::R):=ent_new
 have e3:Ent (slA 8 csv ⟨none,0⟩ []::slA 1 iv ⟨none,0⟩ []::R) (clA ⟨none,0⟩ []::slA 1 iv ⟨none,0⟩ []::R):=cl_nil
 have e4:Ent (clA ⟨none,0⟩ []::slA 1 iv ⟨none,0⟩ []::R) (slA 3 wv ⟨none,0⟩ []::clA ⟨none,0⟩ []::slA 1 iv ⟨none,0⟩ []::R):=ent_new
 exact((e1.trans e2).trans e3).trans e4
theorem toI_used{H:Heap}{w:Word}(hk:w.kind=2)(hu:(H.getC w.at_).state=1):H.toI w=w.at_:=by
 unfold Heap.toI Heap.lead
 rw[if_pos hk,if_neg (fun h=>by have:=h.2;omega)]
theorem toI_no{H:Heap}{w:Word}(hk:w.kind≠2):H.toI w= -1:=by
 unfold Heap.toI
 rw[if_neg hk]
theorem shadeWord_a{a:Nat}{x:HX}{w:Word}(hf:w.kind=2→0≤w.at_∧w.at_<x.H.cells.length)(hu:w.kind=2→(x.H.getC w.at_).state=1)(hg:x.gray.length≤1000000):
 FnA Tryz.prog 127 [ptr a,wa w] (hp a x) (fun v As=>∃z:HX,v=.bool (decide (White x.H w))∧As=hp a z∧z.H=x.H.shadeW w∧z.rd=x.rd):=by
 refine fnA_of (fun h=>fn127 (by simp) h) ?_
 have hl:=x.len
 unfold Heap.shadeW
 by_cases hk:w.kind=2
 ·have hat:=hf hk
  obtain⟨y,gy,gc⟩:=HX.atI (x:=x) hat.1 (by omega)
  obtain⟨k,hk'⟩:=Int.eq_ofNat_of_zero_le hat.1
  rw[if_pos hk]
  have et:=toI_used hk (hu hk)
  have ek:w.at_.toNat=k:=by omega
  rw[ek]at gy⊢
  rw[hk']at et gc
  have hnc:x.hdr.nc=x.xs.length:=rfl
  repeat' (first|refine xx ?_|(refine xy ?_ ?_<;>intro hb<;>try(exfalso;omega))|(refine k_L ?_;(refine k_c ?_;refine a_cq rfl (fun m hm=>qt_e (to_q (x:=x) (sep_has hm pmt) hf) (by rw[et])) ?_))|fail)
  ·refine fa_r (fun _ _=>rfl) (Pm.ent (fin x)) ⟨_,ret_f (fun h=>absurd (by have:=h.2;rw[hk',gc]at this;exact this) ‹_›),rfl,?_,rfl⟩
   unfold Heap.shadeH
   rw[gc,if_neg (fun h=>absurd h.2 ‹_›)]
  ·refine g_c rfl (shadeH_a (x:=x) (i:=k) (by omega) hg) (fun v As' hq=>?_)
   obtain⟨z,rfl,hz,hzr⟩:=hq
   repeat' (first|refine xx ?_|fail)
   refine fa_r (fun _ _=>rfl) (Pm.ent (fin z)) ⟨_,ret_t ⟨hk,by rw[hk',gc];assumption⟩,rfl,hz,hzr⟩
 ·rw[if_neg hk]
  have et:=toI_no (H:=x.H) hk
  repeat' (first|refine xx ?_|(refine k_L ?_;(refine k_c ?_;refine a_cq rfl (fun m hm=>qt_e (to_q (x:=x) (sep_has hm pmt) hf) (by rw[et])) ?_))|fail)
  exact fa_r (fun _ _=>rfl) (Pm.ent (fin x)) ⟨_,ret_f (fun h=>absurd h.1 hk),rfl,rfl,rfl⟩
theorem enter_H{x:HX}{p:Int}:(x.enter p).H=x.H.enterH p:=by
 unfold HX.enter HX.H Heap.enterH
 simp only[List.length_map]
theorem shadeL_no:∀(ws:List Word) {H:Heap},(∀w,w∈ws→Formed H w∧¬White H w)→H.shadeL ws=H
 |[],_,_=>rfl
 |w::r,H,h=>by
  have e:H.shadeL (w::r)=(H.shadeW w).shadeL r:=rfl
  rw[e,shadeW_no (h w (by simp)).2 (h w (by simp)).1]
  exact shadeL_no r (fun v hv=>h v (by simp[hv]))
theorem shadeL_snoc(H:Heap)(ws:List Word)(w:Word):H.shadeL (ws++[w])=(H.shadeL ws).shadeW w:=by unfold Heap.shadeL;rw[List.foldl_append];rfl
theorem some_white{H:Heap}{ws:List Word}{w:Word}(hw:∀v,v∈ws++[w]→Formed H v∧(v.kind=2→(H.getC v.at_).state=1)):((∃v,v∈ws++[w]∧White H v)↔(∃v,v∈ws∧White H v)∨White (H.shadeL ws) w):=by
 obtain⟨s,_⟩:=shadeL_ok ws H (fun v hv=>hw v (by simp[hv]))
 constructor
 ·rintro⟨v,hv,hwh⟩
  rcases List.mem_append.1 hv with hv|hv
  ·exact .inl ⟨v,hv,hwh⟩
  ·simp at hv;subst hv
   by_cases e:∃u,u∈ws∧White H u
   ·exact .inl e
   ·right
    rw[shadeL_no ws (fun u hu=>⟨(hw u (by simp[hu])).1,fun h'=>e ⟨u,hu,h'⟩⟩)]
    exact hwh
 ·rintro(⟨v,hv,hwh⟩|hwh)
  ·exact⟨v,by simp[hv],hwh⟩
  ·refine⟨w,by simp,?_⟩
   by_cases e:White H w
   ·exact e
   ·exact absurd hwh (s.white e)
theorem sound_gray{x:HX}(h:Sound x.H):x.gray.length≤1000000∧x.xs.length≤8000∧x.regs.length=16:=by
 have h1:=h.r1.gray
 have h2:=h.r1.cells
 have h3:=h.r1.room
 have h4:=x.len
 have h5:x.H.gray=x.gray:=rfl
 have h6:=h.r1.regs
 have h7:x.H.regs=x.regs:=rfl
 rw[h5]at h1;rw[h7]at h6
 omega
theorem ent_d1{d:D}{xs:List Int}{R:List Asr}(hk:1≤xs.length):Ent (slA 1 iv d xs::R) (slA 1 iv (d.drop 1 1) (xs.drop 1)::R):=ent_h fun m h=>sl_drop iv_len h hk
theorem mark_a{a:Nat}{x:HX}(h:Sound x.H)(hph:x.H.phase=2):FnA Tryz.prog 172 [ptr a] (hp a x) (fun v As=>∃z:HX,As=hp a z∧z.H=x.H.markU):=by
 obtain⟨q1,q2,q3⟩:=sound_gray h
 have hl:=x.len
 have hnc:x.hdr.nc=x.xs.length:=rfl
 have hng:x.hdr.ng=x.gray.length:=rfl
 have hgr:x.H.gray=x.gray:=rfl
 have hm:Marking x.H:=.inr hph
 refine fnA_of (fun h=>fn172 (by simp) h) ?_
 unfold Heap.markU
 cases hg:x.gray with
 |nil=>
  have hnz:x.hdr.ng=0:=by rw[hng,hg];rfl
  rw[hgr,hg]
  simp only
  have hr:=fun w hw=>reg_used h.r4 (w:=w) hw
  have hr':∀w,w∈x.H.regs→Formed x.H w∧(w.kind=2→(x.H.getC w.at_).state=1):=fun w hw=>⟨(hr w hw).1,fun hk=>((hr w hw).2 hk).1⟩
  repeat' (first|refine xx ?_|(refine xy ?_ ?_<;>intro hb<;>try(exfalso;omega))|fail)
  refine g_range x.regs.length (fun q:HX×Bool=>[(0,.v (ptr a)),(4,.v (.bool q.2)),(76,.v (.slice x.rd.a x.regs.length x.rd.cap))]) (fun q=>hp a q.1) (fun i q=>q.1.H=x.H.shadeL (x.regs.take i)∧q.1.rd=x.rd∧(q.2=true↔∃w,w∈x.regs.take i∧White x.H w)) ((x,false):HX×Bool) ⟨rfl,rfl,by simp⟩ (fun i q hi hv=>?_) (fun q hv=>?_)
  ·obtain⟨z,b⟩:=q
   obtain⟨v1,v2,v3⟩:=hv
   simp only at v1 v2 v3
   obtain⟨w,gw⟩:∃w,x.regs[i]?=some w:=⟨_,List.getElem?_eq_getElem hi⟩
   have hsub:∀v,v∈x.regs.take i→Formed x.H v∧(v.kind=2→(x.H.getC v.at_).state=1):=fun v hv=>hr' v (List.mem_of_mem_take hv)
   obtain⟨s,_⟩:=shadeL_ok _ _ hsub
   rw[←v1]at s
   have hw:=hr' w (List.mem_of_getElem? gw)
   have zr:z.regs=x.regs:=s.regs
   have gz:z.regs[i]?=some w:=by rw[zr];exact gw
   have hzg:=(sound_gray (s.sound h)).1
   have hsn:∀v,v∈x.regs.take i++[w]→Formed x.H v∧(v.kind=2→(x.H.getC v.at_).state=1):=fun v hv=>by
    rcases List.mem_append.1 hv with hv|hv
    ·exact hsub v hv
    ·simp at hv;subst hv;exact hw
   have hsw:=some_white hsn
   have htk:x.regs.take (i+1)=x.regs.take i++[w]:=by rw[List.take_add_one,gw];rfl
   rw[←v2]
   repeat' (first|refine xx ?_|(refine xy ?_ ?_<;>intro hb<;>try(exfalso;omega))|(refine k_L ?_;(refine g_c rfl (shadeWord_a (x:=z) (w:=w) (fun hk=>by have:=hw.1.at hk;rw[s.len];exact this) (fun hk=>by rw[(s.cell _).1];exact hw.2 hk) hzg) (fun v As' hq=>?_);obtain⟨u,rfl,rfl,hu,hur⟩:=hq))|fail)
   ·refine r_nx ((u,true):HX×Bool) ⟨by rw[hu,htk,shadeL_snoc,v1],hur,?_⟩
    rw[htk]
    simp only[true_iff]
    exact hsw.2 (.inr (by rw[←v1];assumption))
   ·refine r_nx ((u,b):HX×Bool) ⟨by rw[hu,htk,shadeL_snoc,v1],hur,?_⟩
    rw[htk]
    refine v3.trans ⟨fun h=>hsw.2 (.inl h),fun h=>?_⟩
    rcases hsw.1 h with h|h
    ·exact h
    ·rw[←v1]at h;contradiction
  ·obtain⟨z,b⟩:=q
   obtain⟨v1,v2,v3⟩:=hv
   simp only at v1 v2 v3
   rw[List.take_of_length_le (Nat.le_refl _)]at v1 v3
   cases b with
   |true=>
    repeat' (first|refine xx ?_|fail)
    exact fa_n (fun _ _=>rfl) (Pm.ent (fin z)) ⟨z,rfl,by rw[if_pos (show ∃w,w∈x.H.regs∧White x.H w from v3.1 rfl)];exact v1⟩
   |false=>
    have hno:¬∃w,w∈x.regs∧White x.H w:=fun h=>by have:=v3.2 h;cases this
    have hz:z.H=x.H:=by rw[v1];exact shadeL_no _ (fun w hw=>⟨(hr' w hw).1,fun h'=>hno ⟨w,hw,h'⟩⟩)
    repeat' (first|refine xx ?_|(refine k_L ?_;(refine g_c rfl (enter_a (x:=z)) (fun v As' hq=>?_);subst hq))|fail)
    exact fa_n (fun _ _=>rfl) (Pm.ent (fin (z.enter 3))) ⟨_,rfl,by rw[if_neg (show ¬∃w,w∈x.H.regs∧White x.H w from hno),enter_H,hz]⟩
 |cons g r=>
  rw[hgr,hg]
  simp only
  have hn1:x.hdr.ng=r.length+1:=by rw[hng,hg];rfl
  obtain⟨g1,g2,g3⟩:=h.r5.mark hm
  obtain⟨b0,b1,b2,b3⟩:=g2 g (by rw[hgr,hg];simp)
  obtain⟨y,gy,gc⟩:=HX.atI (x:=x) b0 (by omega)
  obtain⟨gn,hgn⟩:=Int.eq_ofNat_of_zero_le b0
  have gg:x.gray[(0:Int).toNat]?=some g:=by rw[hg];rfl
  have hs0:=h.r1.sub
  have hsub:x.hdr.sub=x.H.sub:=rfl
  rw[gc]
  by_cases hlt:x.H.sub<y.c.pairs.length
  ·obtain⟨p,gp⟩:∃p,y.c.pairs[x.H.sub.toNat]?=some p:=⟨_,List.getElem?_eq_getElem (by omega)⟩
   have gp':y.c.pairs[x.hdr.sub.toNat]?=some p:=gp
   rw[gp]
   simp only
   have hgg:x.H.gray=g::r:=by rw[hgr,hg]
   have gpc:(x.H.getC g).pairs[x.H.sub.toNat]?=some p:=by rw[gc];exact gp
   obtain⟨⟨k1,k2⟩,w1,w2⟩:=markP h hph hgg gpc
   obtain⟨s1,_⟩:=shadeW_ok k1 k2
   obtain⟨s2,_⟩:=markP2 h hph hgg gpc
   repeat' (first|refine xx ?_|(refine xy ?_ ?_<;>intro hb<;>try(exfalso;omega))|fail)
   refine g_c rfl (shadeWord_a (x:=x) (w:=p.key) (fun hk=>k1.at hk) k2 q1) (fun v As' hq=>?_)
   obtain⟨z,rfl,rfl,hz,hzr⟩:=hq
   have zg:=(sound_gray (x:=z) (by rw[hz];exact s1.sound h)).1
   repeat' (first|refine xx ?_|fail)
   refine g_c rfl (shadeWord_a (x:=z) (w:=p.val) (fun hk=>by rw[hz,s1.len];exact w1.at hk) (fun hk=>by rw[hz,(s1.cell _).1];exact w2 hk) zg) (fun v As' hq=>?_)
   obtain⟨u,rfl,rfl,hu,hur⟩:=hq
   have us:u.sub=x.H.sub:=by
    have:u.H.sub=x.H.sub:=by rw[hu,hz];exact s2.sub
    exact this
   repeat' (first|refine xx ?_|fail)
   refine fa_r (fun _ _=>rfl) (Pm.ent (fin {u with sub:=u.sub+1})) ⟨_,rfl,?_⟩
   show({u.H with sub:=u.sub+1}:Heap)=_
   rw[us,hu,hz]
  ·have gp:y.c.pairs[x.H.sub.toNat]?=none:=List.getElem?_eq_none (by omega)
   rw[gp]
   simp only
   repeat' (first|refine xx ?_|(refine xy ?_ ?_<;>intro hb<;>try(exfalso;omega))|(refine k_L ?_;(refine a_dr rfl rfl (kn_t (kn_t (kn_t (kn_h pl_sl)))) (by omega) (kn_t (kn_t (kn_t (kn_h cp_sl)))) ?_))|fail)
   refine fa_r (As':=hp a ({x with xs:=x.xs.set g.toNat (y.s_color 2),gd:=x.gd.drop 1 1,gray:=x.gray.drop 1,sub:=0}:HX)) (fun _ _=>rfl) ?_ ⟨_,rfl,?_⟩
   ·refine Ent.trans (Pm.ent (As1:=[slA 1 iv x.gd x.gray,hdA a ((x.hdr.s_gd (x.gd.drop 1 1) (x.gray.length-1)).s_sub 0),slA 3 wv x.rd x.regs,clA x.cd (x.xs.set g.toNat (y.s_color 2))]) pmt) ?_
    refine(ent_d1 (by rw[hg];simp)).trans ?_
    exact Pm.ent (fin _ (h3:=by simp[HX.hdr,Hdr.s_gd,Hdr.s_sub]))
   ·unfold HX.H Heap.black
    simp only[List.map_set,hg,List.drop_one,List.tail_cons,hgr]
    congr 2
    have gc':(Heap.mk x.room x.used x.born x.regs (x.xs.map (·.c)) x.phase x.hand x.sub (g::r) x.per x.start x.rounds x.forced).getC g=y.c:=gc
    rw[gc']
    rfl
end Go.Proofs.YtpleoapljeffiaaGreatDoor.E
