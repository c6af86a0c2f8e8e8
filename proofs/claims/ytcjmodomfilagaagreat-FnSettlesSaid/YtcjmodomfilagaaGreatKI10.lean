/- A part of the proof. Conditions: none. -/
import Derived.Test.YtcjmodomfilagaaGreatKI9
set_option maxRecDepth 100000
set_option linter.unusedVariables false
namespace Go.Proofs.YtcjmodomfilagaaGreat.E
open Go
noncomputable def e27:Env:=⟨Tryz.prog,[7,9,10,12],87,[(16,13)]⟩
abbrev zp(a0:Nat)(a1:Nat)(a2:Nat):I:=⟨some a0,none,.mov (.const (.slice none a1 a2))⟩
abbrev zz(a0:Nat)(a1:Nat)(a2:Int):I:=⟨some a0,none,.bin .gtr (.tmp a1) (.const (.int .i64 a2))⟩
abbrev q8(a0:Nat)(a1:Nat)(a2:Nat):I:=⟨some a0,none,.ext (.tmp a1) a2⟩
abbrev qK(a0:Nat)(a1:Nat)(a2:Nat):I:=⟨some a0,none,.callv (.tmp a1) [.tmp a2]⟩
abbrev qQ(a0:Nat)(a1:Nat)(a2:Nat)(a3:Nat)(a4:Nat)(a5:Nat):I:=⟨some a0,none,.call a1 [.tmp a2,.tmp a3,.tmp a4,.tmp a5]⟩
abbrev qW(a0:Nat)(a1:Nat)(a2:Nat)(a3:Int)(a4:Nat)(a5:Nat):I:=⟨some a0,none,.app a1 a2 [.int .i64 a3] (.tmp a4) (.tmp a5)⟩
abbrev qb(a0:Nat)(a1:Nat)(a2:Int):I:=⟨some a0,none,.bin .geq (.tmp a1) (.const (.int .i64 a2))⟩
abbrev qc(a0:Nat)(a1:Nat)(a2:Nat)(a3:Int)(a4:Nat)(a5:Nat)(a6:Nat):I:=⟨some a0,none,.bslice true a1 a2 [.int .i64 a3] [(a4,a5,.tmp a6)]⟩
abbrev qd(a0:Nat)(a1:Nat)(a2:Int):I:=⟨some a0,none,.bin .and (.tmp a1) (.const (.int .i64 a2))⟩
abbrev qj(a0:Nat)(a1:Nat)(a2:Nat):I:=⟨some a0,none,.alloc false [.slice none a1 a2]⟩
abbrev qu(a0:Nat)(a1:Nat)(a2:Nat)(a3:Nat)(a4:Nat):I:=⟨some a0,none,.mkslice a1 a2 [.bool false] (.tmp a3) (.tmp a4)⟩
abbrev j8(a0:Nat)(a1:Nat):I:=⟨none,none,.store a0 (.tmp a1) (.const (.bool true))⟩
abbrev j9(a0:Nat)(a1:Nat)(a2:Nat)(a3:Int)(a4:Int)(a5:Int)(a6:Nat)(a7:Nat):I:=⟨some a0,none,.app a1 a2 [.int .i64 a3,.int .i64 a4,.int .i64 a5] (.tmp a6) (.tmp a7)⟩
noncomputable def c27:C:=
 .seq (.reg [zt 1 0,zp 2 0 0]) (.seq (.reg [z5 13 1 1,z6 14 13,z4 15 4 14,z5 16 1 15,zG 17 16,qu 18 1 1 17 17,qj 3 0 0,z8 1 3 18]) (.seq (.reg [qj 4 0 0]) (.seq (.reg [⟨some 19,none,.mkfn 65 [] [.tmp 1,.tmp 3,.tmp 4]⟩,z3 5 19]) (.seq (.seq (.reg [z5 20 1 1,z6 21 20,z4 22 3 21,z5 23 1 22,zG 24 23,zC 25 0]) (.block 0 (.loop (.seq (.reg [zQ 26 25 24]) (.seq (.cond (.tmp 26) .skip (.exit 0))
 (.seq (.block 1 (.seq (.reg [z9 27 3 23 25,zA 28 3 27,zo 7 0 0 0,z8 3 7 28]) (.reg [z3 29 5,zA 30 3 7,qK 31 29 30]))) (.reg [zN 32 25 1,z3 25 32]))))))) (.seq (.seq (.reg [z5 33 1 1,z6 34 33,z4 35 4 34,z5 36 1 35,zG 37 36,zC 38 0]) (.block 2 (.loop (.seq (.reg [zQ 39 38 37]) (.seq (.cond (.tmp 39) .skip (.exit 2)) (.seq (.block 3 (.seq (.reg [z3 40 38,z9 41 8 36 38,zA 42 8 41,zX 9 0 0 0 0 0
 0 0 0 0,z3 8 40,z8 8 9 42]) (.seq (.reg [zA 43 8 9,zM 44 66 43]) (.cond (.tmp 44) (.reg [z3 45 5,z3 46 8,qE 47 0 0 0 0 1 2 2 1 46,qK 48 45 47]) .skip)))) (.reg [zN 49 38 1,z3 38 49]))))))) (.seq (.block 4 (.loop (.seq (.seq (.reg [z5 50 1 4,zG 51 50,zz 52 51 0]) (.cond (.tmp 52) .skip (.exit 4))) (.block 5 (.seq (.dreg 13 [z5 53 1 1,z6 54 53,z4 55 4 54,z5 56 1 55,z5 57 1 4,z5 58 1 4,zG 59 58,
 za 60 59 1,z9 61 1 57 60,z5 62 1 61,z9 63 8 56 62,zA 64 8 63,zX 10 0 0 0 0 0 0 0 0 0,z8 8 10 64]) (.seq (.reg [z5 65 1 4,z5 66 1 4,zG 67 66,za 68 67 1,qt 69 1 65 68,z8 1 4 69]) (.seq (.reg [z4 70 7 10,z5 71 1 70,zG 72 71,zC 73 0]) (.block 6 (.loop (.seq (.reg [zQ 74 73 72]) (.seq (.cond (.tmp 74) .skip (.exit 6)) (.seq (.block 7 (.seq (.reg [z9 75 6 71 73,zA 76 6 75,zy 12 0 0 0 0 0 0,z8 6 12
 76]) (.seq (.reg [z3 77 5,z4 78 0 12,zA 79 3 78,qK 80 77 79]) (.reg [z3 81 5,z4 82 3 12,zA 83 3 82,qK 84 81 83])))) (.reg [zN 85 73 1,z3 73 85]))))))))))))) (.seq (.reg [z5 86 1 3,z3 2 86]) .ret)))))))
theorem t27:Tryz.f27.body.bind (trC e27)=some c27:=by kernel_rfl
theorem r27:Tryz.f27.results.toList.mapM (trR Tryz.prog)=some [.tmp 2]:=by kernel_rfl
theorem fn27{args:List Value}{M:Mem}{post:Value→Mem→Prop}(hl:args.length≤87)(h:VC e27 c27 (fnQ [.tmp 2] post) (initS args 87) M):Fn Tryz.prog 27 args M post:=
 Fn.of' (E:=e27) Tryz.func27 t27 rfl r27 mixed hl h
noncomputable def e65:Env:=⟨Tryz.prog,[4,23],25,[]⟩
noncomputable def c65:C:=
 .seq (.reg [zZ 4 0]) (.seq (.reg [z5 6 1 1,zA 7 3 4,zU 8 64 6 7,z3 5 8]) (.seq (.reg [z3 9 5,qb 10 9 0,z3 11 10,zD 12 11 1 2,zF 13 11 5,zj 14 11 1 12 13,zD 15 11 1 14,q5 16 11 15,zJ 17 11 16]) (.cond (.tmp 17) (.seq (.reg [z5 18 1 2,z3 19 5,z9 20 1 18 19,j8 1 20]) (.reg [z5 21 1 3,z3 22 5,qc 23 1 1 0 0 1 22,qW 24 1 8 0 21 23,z8 1 3 24])) .skip)))
theorem t65:Tryz.f65.body.bind (trC e65)=some c65:=by kernel_rfl
theorem r65:Tryz.f65.results.toList.mapM (trR Tryz.prog)=some []:=by kernel_rfl
theorem fn65{args:List Value}{M:Mem}{post:Value→Mem→Prop}(hl:args.length≤25)(h:VC e65 c65 (fnQ [] post) (initS args 25) M):Fn Tryz.prog 65 args M post:=
 Fn.of' (E:=e65) Tryz.func65 t65 rfl r65 mixed hl h
noncomputable def e26:Env:=⟨Tryz.prog,[8,10,13,14,16,139],143,[]⟩
noncomputable def c26:C:=
 .seq (.reg [zt 1 0,zp 2 0 0]) (.seq (.reg [z5 18 1 1,z6 19 18,z4 20 4 19,z5 21 1 20,zG 22 21,qu 23 1 1 22 22,qj 3 0 0,z8 1 3 23]) (.seq (.reg [qp 24,z3 4 24]) (.seq (.reg [qj 5 0 0]) (.seq (.reg [⟨some 25,none,.mkfn 63 [] [.tmp 1,.tmp 3,.tmp 5]⟩,z3 6 25]) (.seq (.seq (.reg [z5 26 1 1,z6 27 26,z4 28 3 27,z5 29 1 28,zG 30 29,zC 31 0]) (.block 0 (.loop (.seq (.reg [zQ 32 31 30]) (.seq (.cond
 (.tmp 32) .skip (.exit 0)) (.seq (.block 1 (.seq (.reg [z9 33 3 29 31,zA 34 3 33,zo 8 0 0 0,z8 3 8 34]) (.reg [z3 35 6,zA 36 3 8,qK 37 35 36]))) (.reg [zN 38 31 1,z3 31 38]))))))) (.seq (.seq (.reg [z5 39 1 1,z6 40 39,z4 41 4 40,z5 42 1 41,zG 43 42,zC 44 0]) (.block 2 (.loop (.seq (.reg [zQ 45 44 43]) (.seq (.cond (.tmp 45) .skip (.exit 2)) (.seq (.block 3 (.seq (.reg [z3 46 44,z9 47 8 42
 44,zA 48 8 47,zX 10 0 0 0 0 0 0 0 0 0,z3 9 46,z8 8 10 48]) (.seq (.reg [z4 49 0 10,z5 50 1 49,z7 51 50 1,z3 52 51,zE 53 52 3 10,zD 54 52 1 53,zW 55 52 54 2,zJ 56 52 55]) (.cond (.tmp 56) (.reg [z3 57 6,z3 58 9,qE 59 0 0 0 0 1 2 2 1 58,qK 60 57 59]) .skip)))) (.reg [zN 61 44 1,z3 44 61]))))))) (.seq (.block 4 (.loop (.seq (.seq (.reg [z5 62 1 5,zG 63 62,zz 64 63 0]) (.cond (.tmp 64) .skip
 (.exit 4))) (.block 5 (.seq (.reg [z5 65 1 5,z5 66 1 5,zG 67 66,za 68 67 1,z9 69 1 65 68,z5 70 1 69,z3 11 70]) (.seq (.reg [z5 71 1 5,z5 72 1 5,zG 73 72,za 74 73 1,qt 75 1 71 74,z8 1 5 75]) (.seq (.seq (.reg [z3 76 4,z3 77 11,⟨some 78,none,.look true (.slice none 0 0) false (.tmp 76) (.tmp 77)⟩,zG 79 78,zC 80 0]) (.block 6 (.loop (.seq (.reg [zQ 81 80 79]) (.seq (.cond (.tmp 81) .skip (.exit
 6)) (.seq (.block 7 (.seq (.reg [z9 82 3 78 80,zA 83 3 82,zo 13 0 0 0,z8 3 13 83]) (.reg [z3 84 6,zA 85 3 13,qK 86 84 85]))) (.reg [zN 87 80 1,z3 80 87]))))))) (.seq (.reg [z3 88 4,z3 89 11,⟨none,none,.mdel (.tmp 88) (.tmp 89)⟩]) (.seq (.reg [z5 90 1 1,z6 91 90,z4 92 4 91,z5 93 1 92,z3 94 11,z9 95 8 93 94,zA 96 8 95,zX 14 0 0 0 0 0 0 0 0 0,z8 8 14 96]) (.seq (.reg [z4 97 7 14,z5 98 1 97,zG
 99 98,zC 100 0]) (.block 8 (.loop (.seq (.reg [zQ 101 100 99]) (.seq (.cond (.tmp 101) .skip (.exit 8)) (.seq (.block 9 (.seq (.reg [z9 102 6 98 100,zA 103 6 102,zy 16 0 0 0 0 0 0,z8 6 16 103]) (.seq (.seq (.reg [z4 104 2 14,z5 105 1 104,qd 106 105 1,z7 107 106 0]) (.cond (.tmp 107) (.reg [z3 108 6,z4 109 0 16,zA 110 3 109,qK 111 108 110]) .skip)) (.seq (.seq (.reg [z4 112 2 14,z5 113 1 112,
 qd 114 113 2,zk 115 114 0]) (.cond (.tmp 115) (.exit 9) .skip)) (.seq (.reg [z5 116 1 1,z4 117 0 16,zA 118 3 117,zU 119 64 116 118,z3 17 119]) (.seq (.reg [z3 120 17,qP 121 120 0,z3 122 121,zK 123 122 1 3,zP 124 122 17,qF 125 122 1 123 124,zK 126 122 1 125,zO 127 122 126]) (.cond (.tmp 127) (.reg [z3 128 6,z4 129 3 16,zA 130 3 129,qK 131 128 130]) (.reg [z3 132 4,z3 133 17,z3 134 4,z3 135 17,
 ⟨some 136,none,.look true (.slice none 0 0) false (.tmp 134) (.tmp 135)⟩,z4 137 3 16,zA 138 3 137,⟨some 139,none,.bslice true 1 3 [.int .i64 0,.int .i64 0,.int .i64 0] [(0,3,.tmp 138)]⟩,j9 140 3 24 0 0 0 136 139,⟨none,none,.mupd (.tmp 132) (.tmp 133) (.tmp 140)⟩])))))))) (.reg [zN 141 100 1,z3 100 141])))))))))))))))) (.seq (.reg [z5 142 1 3,z3 2 142]) .ret))))))))
theorem t26:Tryz.f26.body.bind (trC e26)=some c26:=by kernel_rfl
theorem r26:Tryz.f26.results.toList.mapM (trR Tryz.prog)=some [.tmp 2]:=by kernel_rfl
theorem fn26{args:List Value}{M:Mem}{post:Value→Mem→Prop}(hl:args.length≤143)(h:VC e26 c26 (fnQ [.tmp 2] post) (initS args 143) M):Fn Tryz.prog 26 args M post:=
 Fn.of' (E:=e26) Tryz.func26 t26 rfl r26 mixed hl h
noncomputable def e63:Env:=⟨Tryz.prog,[4,23],25,[]⟩
noncomputable def c63:C:=
 .seq (.reg [zZ 4 0]) (.seq (.reg [z5 6 1 1,zA 7 3 4,zU 8 64 6 7,z3 5 8]) (.seq (.reg [z3 9 5,qb 10 9 0,z3 11 10,zD 12 11 1 2,zF 13 11 5,zj 14 11 1 12 13,zD 15 11 1 14,q5 16 11 15,zJ 17 11 16]) (.cond (.tmp 17) (.seq (.reg [z5 18 1 2,z3 19 5,z9 20 1 18 19,j8 1 20]) (.reg [z5 21 1 3,z3 22 5,qc 23 1 1 0 0 1 22,qW 24 1 8 0 21 23,z8 1 3 24])) .skip)))
theorem t63:Tryz.f63.body.bind (trC e63)=some c63:=by kernel_rfl
theorem r63:Tryz.f63.results.toList.mapM (trR Tryz.prog)=some []:=by kernel_rfl
theorem fn63{args:List Value}{M:Mem}{post:Value→Mem→Prop}(hl:args.length≤25)(h:VC e63 c63 (fnQ [] post) (initS args 25) M):Fn Tryz.prog 63 args M post:=
 Fn.of' (E:=e63) Tryz.func63 t63 rfl r63 mixed hl h
noncomputable def e36:Env:=⟨Tryz.prog,[7],28,[]⟩
noncomputable def c36:C:=
 .seq (.reg [zC 4 0]) (.seq (.reg [zC 5 0]) (.seq (.seq (.reg [z3 8 0,z6 9 8,z4 10 4 9,z5 11 1 10,zG 12 11,zC 13 0]) (.block 0 (.loop (.seq (.reg [zQ 14 13 12]) (.seq (.cond (.tmp 14) .skip (.exit 0)) (.seq (.block 1 (.seq (.reg [z3 15 13,z9 16 8 11 13,zA 17 8 16,zX 7 0 0 0 0 0 0 0 0 0,z3 6 15,z8 8 7 17]) (.seq (.reg [z3 18 1,z3 19 6,z9 20 1 18 19,z5 21 1 20]) (.cond (.tmp 21) (.reg [z3 22
 5,zA 23 8 7,zM 24 80 23,q7 25 22 24,z3 5 25]) .skip)))) (.reg [zN 26 13 1,z3 13 26]))))))) (.seq (.reg [z3 27 5,z3 4 27]) .ret)))
theorem t36:Tryz.f36.body.bind (trC e36)=some c36:=by kernel_rfl
theorem r36:Tryz.f36.results.toList.mapM (trR Tryz.prog)=some [.tmp 4]:=by kernel_rfl
theorem fn36{args:List Value}{M:Mem}{post:Value→Mem→Prop}(hl:args.length≤28)(h:VC e36 c36 (fnQ [.tmp 4] post) (initS args 28) M):Fn Tryz.prog 36 args M post:=
 Fn.of' (E:=e36) Tryz.func36 t36 rfl r36 mixed hl h
noncomputable def e37:Env:=⟨Tryz.prog,[5],44,[(5,25)]⟩
noncomputable def c37:C:=
 .seq (.reg [zC 2 0]) (.seq (.reg [zC 3 (-1)]) (.seq (.seq (.reg [z3 6 0,z6 7 6,z4 8 4 7,z5 9 1 8,zG 10 9,zC 11 0]) (.block 0 (.loop (.seq (.reg [zQ 12 11 10]) (.seq (.cond (.tmp 12) .skip (.exit 0)) (.seq (.block 1 (.seq (.reg [z3 13 11,z9 14 8 9 11,zA 15 8 14,zX 5 0 0 0 0 0 0 0 0 0,z3 4 13,z8 8 5 15]) (.seq (.dreg 25 [z4 16 0 5,z5 17 1 16,z7 18 17 1,z3 19 18,zE 20 19 3 5,zD 21 19 1 20,zW
 22 19 21 2,zJ 23 19 22,z3 24 23,zF 25 24 3,⟨some 26,some (24,true),.bin .lss (.tmp 25) (.const (.int .i64 0))⟩,zF 27 24 26,zI 28 27 4 5,zK 29 27 1 28,zP 30 27 0,zY 31 27 30,zI 32 27 4 31,zK 33 27 1 32,zP 34 27 3,qF 35 27 8 33 34,zI 36 27 4 35,zK 37 27 1 36,qZ 38 27 29 37,qJ 39 24 27 38,zJ 40 24 39]) (.cond (.tmp 40) (.reg [z3 41 4,z3 3 41]) .skip)))) (.reg [zN 42 11 1,z3 11 42]))))))) (.seq
 (.reg [z3 43 3,z3 2 43]) .ret)))
theorem t37:Tryz.f37.body.bind (trC e37)=some c37:=by kernel_rfl
theorem r37:Tryz.f37.results.toList.mapM (trR Tryz.prog)=some [.tmp 2]:=by kernel_rfl
theorem fn37{args:List Value}{M:Mem}{post:Value→Mem→Prop}(hl:args.length≤44)(h:VC e37 c37 (fnQ [.tmp 2] post) (initS args 44) M):Fn Tryz.prog 37 args M post:=
 Fn.of' (E:=e37) Tryz.func37 t37 rfl r37 mixed hl h
noncomputable def e8:Env:=⟨Tryz.prog,[],7,[]⟩
noncomputable def c8:C:=
 .seq (.reg [zt 1 0,zp 2 0 0]) (.seq (.seq (.reg [zA 3 13 1,zM 4 25 3,zV 5 4]) (.cond (.tmp 5) (.seq (.reg [zp 2 0 0]) .ret) .skip)) (.seq (.reg [zM 6 27 1,z3 2 6]) .ret))
theorem t8:Tryz.f8.body.bind (trC e8)=some c8:=by kernel_rfl
theorem r8:Tryz.f8.results.toList.mapM (trR Tryz.prog)=some [.tmp 2]:=by kernel_rfl
theorem fn8{args:List Value}{M:Mem}{post:Value→Mem→Prop}(hl:args.length≤7)(h:VC e8 c8 (fnQ [.tmp 2] post) (initS args 7) M):Fn Tryz.prog 8 args M post:=
 Fn.of' (E:=e8) Tryz.func8 t8 rfl r8 mixed hl h
noncomputable def e7:Env:=⟨Tryz.prog,[],7,[]⟩
noncomputable def c7:C:=
 .seq (.reg [zt 1 0,zp 2 0 0]) (.seq (.seq (.reg [zA 3 13 1,zM 4 25 3,zV 5 4]) (.cond (.tmp 5) (.seq (.reg [zp 2 0 0]) .ret) .skip)) (.seq (.reg [zM 6 26 1,z3 2 6]) .ret))
theorem t7:Tryz.f7.body.bind (trC e7)=some c7:=by kernel_rfl
theorem r7:Tryz.f7.results.toList.mapM (trR Tryz.prog)=some [.tmp 2]:=by kernel_rfl
theorem fn7{args:List Value}{M:Mem}{post:Value→Mem→Prop}(hl:args.length≤7)(h:VC e7 c7 (fnQ [.tmp 2] post) (initS args 7) M):Fn Tryz.prog 7 args M post:=
 Fn.of' (E:=e7) Tryz.func7 t7 rfl r7 mixed hl h
noncomputable def e12:Env:=⟨Tryz.prog,[],8,[]⟩
noncomputable def c12:C:=
 .seq (.reg [zt 1 0,zC 2 0]) (.seq (.seq (.reg [zA 3 13 1,zM 4 25 3,zV 5 4]) (.cond (.tmp 5) (.seq (.reg [zC 2 0]) .ret) .skip)) (.seq (.reg [zM 6 26 1,zU 7 36 1 6,z3 2 7]) .ret))
theorem t12:Tryz.f12.body.bind (trC e12)=some c12:=by kernel_rfl
theorem r12:Tryz.f12.results.toList.mapM (trR Tryz.prog)=some [.tmp 2]:=by kernel_rfl
theorem fn12{args:List Value}{M:Mem}{post:Value→Mem→Prop}(hl:args.length≤8)(h:VC e12 c12 (fnQ [.tmp 2] post) (initS args 8) M):Fn Tryz.prog 12 args M post:=
 Fn.of' (E:=e12) Tryz.func12 t12 rfl r12 mixed hl h
noncomputable def e13:Env:=⟨Tryz.prog,[],7,[]⟩
noncomputable def c13:C:=
 .seq (.reg [zt 1 0,zC 2 0]) (.seq (.seq (.reg [zA 3 13 1,zM 4 25 3,zV 5 4]) (.cond (.tmp 5) (.seq (.reg [zC 2 (-1)]) .ret) .skip)) (.seq (.reg [zM 6 37 1,z3 2 6]) .ret))
theorem t13:Tryz.f13.body.bind (trC e13)=some c13:=by kernel_rfl
theorem r13:Tryz.f13.results.toList.mapM (trR Tryz.prog)=some [.tmp 2]:=by kernel_rfl
theorem fn13{args:List Value}{M:Mem}{post:Value→Mem→Prop}(hl:args.length≤7)(h:VC e13 c13 (fnQ [.tmp 2] post) (initS args 7) M):Fn Tryz.prog 13 args M post:=
 Fn.of' (E:=e13) Tryz.func13 t13 rfl r13 mixed hl h
noncomputable def e121:Env:=⟨Tryz.prog,[7,9,31],33,[]⟩
noncomputable def c121:C:=
 .seq (.reg [zZ 7 3,zp 8 0 0]) (.seq (.reg [z3 10 0,zA 11 3 7,zU 12 122 10 11,zo 9 0 0 0,z8 3 9 12]) (.seq (.seq (.reg [z4 13 0 9,z5 14 1 13,zk 15 14 2,z3 16 15,zP 17 16 1,zI 18 16 2 9,zK 19 16 1 18,qF 20 16 1 17 19,zK 21 16 1 20,zO 22 16 21]) (.cond (.tmp 22) (.seq (.reg [z3 23 2,z3 8 23]) .ret) .skip)) (.seq (.reg [z3 24 1,z4 25 2 9,z5 26 1 25,z9 27 1 24 26,j8 1 27]) (.seq (.reg [z3 28 2,
 z4 29 2 9,z5 30 1 29,qc 31 1 1 0 0 1 30,qW 32 1 8 0 28 31,z3 8 32]) .ret))))
theorem t121:Tryz.f121.body.bind (trC e121)=some c121:=by kernel_rfl
theorem r121:Tryz.f121.results.toList.mapM (trR Tryz.prog)=some [.tmp 8]:=by kernel_rfl
theorem fn121{args:List Value}{M:Mem}{post:Value→Mem→Prop}(hl:args.length≤33)(h:VC e121 c121 (fnQ [.tmp 8] post) (initS args 33) M):Fn Tryz.prog 121 args M post:=
 Fn.of' (E:=e121) Tryz.func121 t121 rfl r121 mixed hl h
noncomputable def e127:Env:=⟨Tryz.prog,[5,34],89,[(8,28)]⟩
noncomputable def c127:C:=
 .seq (.reg [zp 2 0 0]) (.seq (.reg [zp 3 0 0]) (.seq (.seq (.reg [z3 9 0,z6 10 9,z4 11 4 10,z5 12 1 11,zG 13 12,zC 14 0]) (.block 0 (.loop (.seq (.reg [zQ 15 14 13]) (.seq (.cond (.tmp 15) .skip (.exit 0)) (.seq (.block 1 (.seq (.reg [z3 16 14,z9 17 8 12 14,zA 18 8 17,zX 5 0 0 0 0 0 0 0 0 0,z3 4 16,z8 8 5 18]) (.seq (.seq (.reg [z4 19 0 5,z5 20 1 19,zk 21 20 1,z3 22 21,zI 23 22 3 5,zK 24 22
 1 23,zx 25 22 24 1,zP 26 22 25,zE 27 26 3 5,zD 28 26 1 27,qG 29 26 28 2,q9 30 22 26 29,zO 31 22 30]) (.cond (.tmp 31) (.exit 1) .skip)) (.seq (.reg [z3 32 3,z3 33 4,qc 34 1 1 0 0 1 33,qW 35 1 8 0 32 34,z3 3 35]) (.seq (.reg [z3 36 3,zG 37 36,za 38 37 1,z3 6 38]) (.block 2 (.loop (.seq (.seq (.dreg 28 [z3 39 6,zz 40 39 0,z3 41 40,zF 42 41 0,zR 43 41 42,zE 44 41 4 43,zD 45 41 1 44,zF 46 41 3,zF
 47 41 6,⟨some 48,some (41,true),.bin .sub (.tmp 47) (.const (.int .i64 1))⟩,zj 49 41 1 46 48,zD 50 41 1 49,zj 51 41 8 45 50,zE 52 41 4 51,zD 53 41 1 52,zF 54 41 0,zR 55 41 54,zE 56 41 4 55,zD 57 41 1 56,zF 58 41 3,zF 59 41 6,zj 60 41 1 58 59,zD 61 41 1 60,zj 62 41 8 57 61,zE 63 41 4 62,zD 64 41 1 63,⟨some 65,some (41,true),.bin .gtr (.tmp 53) (.tmp 64)⟩,zJ 66 41 65]) (.cond (.tmp 66) .skip (.exit
 2))) (.seq (.block 3 (.seq (.reg [z3 69 3,z3 70 6,za 71 70 1,z9 72 1 69 71,z5 73 1 72,z3 7 73]) (.seq (.reg [z3 74 3,z3 75 6,z9 76 1 74 75,z5 77 1 76,z3 8 77]) (.seq (.reg [z3 78 3,z3 79 6,za 80 79 1,z3 81 8,z9 82 1 78 80,z8 1 82 81]) (.reg [z3 83 3,z3 84 6,z3 85 7,z9 86 1 83 84,z8 1 86 85]))))) (.reg [z3 67 6,za 68 67 1,z3 6 68])))))))))) (.reg [zN 87 14 1,z3 14 87]))))))) (.seq (.reg [z3
 88 3,z3 2 88]) .ret)))
theorem t127:Tryz.f127.body.bind (trC e127)=some c127:=by kernel_rfl
theorem r127:Tryz.f127.results.toList.mapM (trR Tryz.prog)=some [.tmp 2]:=by kernel_rfl
theorem fn127{args:List Value}{M:Mem}{post:Value→Mem→Prop}(hl:args.length≤89)(h:VC e127 c127 (fnQ [.tmp 2] post) (initS args 89) M):Fn Tryz.prog 127 args M post:=
 Fn.of' (E:=e127) Tryz.func127 t127 rfl r127 mixed hl h
noncomputable def e90:Env:=⟨Tryz.prog,[7,12],85,[(16,13)]⟩
noncomputable def c90:C:=
 .seq (.reg [zp 2 0 0,zp 3 0 0]) (.seq (.reg [z3 13 0,z6 14 13,z4 15 4 14,z5 16 1 15,zG 17 16,qu 18 1 1 17 17,z3 4 18]) (.seq (.reg [zp 5 0 0]) (.seq (.seq (.reg [z3 19 0,z6 20 19,z4 21 3 20,z5 22 1 21,zG 23 22,zC 24 0]) (.block 0 (.loop (.seq (.reg [zQ 25 24 23]) (.seq (.cond (.tmp 25) .skip (.exit 0)) (.seq (.block 1 (.seq (.reg [z9 26 3 22 24,zA 27 3 26,zo 7 0 0 0,z8 3 7 27]) (.reg [z3
 28 0,z3 29 4,z3 30 5,zA 31 3 7,qQ 32 121 28 29 30 31,z3 5 32]))) (.reg [zN 33 24 1,z3 24 33]))))))) (.seq (.seq (.reg [z3 34 0,zM 35 127 34,zG 36 35,zC 37 0]) (.block 2 (.loop (.seq (.reg [zQ 38 37 36]) (.seq (.cond (.tmp 38) .skip (.exit 2)) (.seq (.block 3 (.seq (.reg [z9 39 1 35 37,z5 40 1 39,z3 9 40]) (.reg [z3 41 0,z3 42 4,z3 43 5,z3 44 9,qE 45 0 0 0 0 1 2 2 1 44,qQ 46 121 41 42 43 45,
 z3 5 46]))) (.reg [zN 47 37 1,z3 37 47]))))))) (.seq (.seq (.reg [zC 10 0]) (.block 4 (.loop (.seq (.seq (.reg [z3 48 10,z3 49 5,zG 50 49,zQ 51 48 50]) (.cond (.tmp 51) .skip (.exit 4))) (.seq (.block 5 (.seq (.dreg 13 [z3 54 0,z6 55 54,z4 56 4 55,z5 57 1 56,z3 58 5,z3 59 10,z9 60 1 58 59,z5 61 1 60,z9 62 8 57 61,z4 63 7 62,z5 64 1 63,zG 65 64,zC 66 0]) (.block 6 (.loop (.seq (.reg [zQ 67 66
 65]) (.seq (.cond (.tmp 67) .skip (.exit 6)) (.seq (.block 7 (.seq (.reg [z9 68 6 64 66,zA 69 6 68,zy 12 0 0 0 0 0 0,z8 6 12 69]) (.seq (.reg [z3 70 0,z3 71 4,z3 72 5,z4 73 0 12,zA 74 3 73,qQ 75 121 70 71 72 74,z3 5 75]) (.reg [z3 76 0,z3 77 4,z3 78 5,z4 79 3 12,zA 80 3 79,qQ 81 121 76 77 78 80,z3 5 81])))) (.reg [zN 82 66 1,z3 66 82])))))))) (.reg [z3 52 10,zN 53 52 1,z3 10 53])))))) (.seq
 (.reg [z3 83 4,z3 84 5,z3 2 83,z3 3 84]) .ret))))))
theorem t90:Tryz.f90.body.bind (trC e90)=some c90:=by kernel_rfl
theorem r90:Tryz.f90.results.toList.mapM (trR Tryz.prog)=some [.tmp 2,.tmp 3]:=by kernel_rfl
theorem fn90{args:List Value}{M:Mem}{post:Value→Mem→Prop}(hl:args.length≤85)(h:VC e90 c90 (fnQ [.tmp 2,.tmp 3] post) (initS args 85) M):Fn Tryz.prog 90 args M post:=
 Fn.of' (E:=e90) Tryz.func90 t90 rfl r90 mixed hl h
noncomputable def e77:Env:=⟨Tryz.prog,[6,8,11,13,14],123,[(20,11)]⟩
noncomputable def c77:C:=
 .seq (.reg [zp 2 0 0]) (.seq (.reg [z3 15 0,z6 16 15,z4 17 4 16,z5 18 1 17,zG 19 18,qu 20 1 1 19 19,z3 3 20]) (.seq (.reg [zp 4 0 0]) (.seq (.seq (.reg [z3 21 0,z6 22 21,z4 23 3 22,z5 24 1 23,zG 25 24,zC 26 0]) (.block 0 (.loop (.seq (.reg [zQ 27 26 25]) (.seq (.cond (.tmp 27) .skip (.exit 0)) (.seq (.block 1 (.seq (.reg [z9 28 3 24 26,zA 29 3 28,zo 6 0 0 0,z8 3 6 29]) (.reg [z3 30 0,z3 31
 3,z3 32 4,zA 33 3 6,qQ 34 121 30 31 32 33,z3 4 34]))) (.reg [zN 35 26 1,z3 26 35]))))))) (.seq (.seq (.reg [z3 36 0,z6 37 36,z4 38 4 37,z5 39 1 38,zG 40 39,zC 41 0]) (.block 2 (.loop (.seq (.reg [zQ 42 41 40]) (.seq (.cond (.tmp 42) .skip (.exit 2)) (.seq (.block 3 (.seq (.reg [z3 43 41,z9 44 8 39 41,zA 45 8 44,zX 8 0 0 0 0 0 0 0 0 0,z3 7 43,z8 8 8 45]) (.seq (.reg [z4 46 3 8,z5 47 1 46,z7
 48 47 2]) (.cond (.tmp 48) (.reg [z3 49 0,z3 50 3,z3 51 4,z3 52 7,qE 53 0 0 0 0 1 2 2 1 52,qQ 54 121 49 50 51 53,z3 4 54]) .skip)))) (.reg [zN 55 41 1,z3 41 55]))))))) (.seq (.reg [zC 9 (-1)]) (.seq (.block 4 (.loop (.seq (.seq (.reg [z3 56 9,z3 57 4,zG 58 57,qD 59 56 58]) (.cond (.tmp 59) .skip (.exit 4))) (.block 5 (.seq (.reg [z3 60 4,zG 61 60,z3 9 61]) (.seq (.reg [zC 10 0]) (.block 6
 (.loop (.seq (.seq (.reg [z3 62 10,z3 63 4,zG 64 63,zQ 65 62 64]) (.cond (.tmp 65) .skip (.exit 6))) (.seq (.block 7 (.seq (.dreg 11 [z3 68 0,z6 69 68,z4 70 4 69,z5 71 1 70,z3 72 4,z3 73 10,z9 74 1 72 73,z5 75 1 74,z9 76 8 71 75,zA 77 8 76,zX 11 0 0 0 0 0 0 0 0 0,z8 8 11 77]) (.seq (.reg [z4 78 7 11,z5 79 1 78,zG 80 79,zC 81 0]) (.block 8 (.loop (.seq (.reg [zQ 82 81 80]) (.seq (.cond (.tmp
 82) .skip (.exit 8)) (.seq (.block 9 (.seq (.reg [z9 83 6 79 81,zA 84 6 83,zy 13 0 0 0 0 0 0,z8 6 13 84]) (.seq (.seq (.reg [z4 85 2 11,z5 86 1 85,qd 87 86 1,z7 88 87 0]) (.cond (.tmp 88) (.reg [z3 89 0,z3 90 3,z3 91 4,z4 92 0 13,zA 93 3 92,qQ 94 121 89 90 91 93,z3 4 94]) .skip)) (.seq (.reg [z3 95 0,z4 96 0 13,zA 97 3 96,zU 98 122 95 97,zo 14 0 0 0,z8 3 14 98]) (.seq (.reg [z4 99 2 11,z5
 100 1 99,qd 101 100 2,z7 102 101 0,z3 103 102,zE 104 103 0 14,zD 105 103 1 104,qG 106 103 105 2,zF 107 103 106,zP 108 107 3,zI 109 107 2 14,zK 110 107 1 109,qF 111 107 1 108 110,zK 112 107 1 111,qJ 113 103 107 112,zJ 114 103 113]) (.cond (.tmp 114) (.reg [z3 115 0,z3 116 3,z3 117 4,z4 118 3 13,zA 119 3 118,qQ 120 121 115 116 117 119,z3 4 120]) .skip)))))) (.reg [zN 121 81 1,z3 81 121])))))))))
 (.reg [z3 66 10,zN 67 66 1,z3 10 67]))))))))))) (.seq (.reg [z3 122 3,z3 2 122]) .ret)))))))
theorem t77:Tryz.f77.body.bind (trC e77)=some c77:=by kernel_rfl
theorem r77:Tryz.f77.results.toList.mapM (trR Tryz.prog)=some [.tmp 2]:=by kernel_rfl
theorem fn77{args:List Value}{M:Mem}{post:Value→Mem→Prop}(hl:args.length≤123)(h:VC e77 c77 (fnQ [.tmp 2] post) (initS args 123) M):Fn Tryz.prog 77 args M post:=
 Fn.of' (E:=e77) Tryz.func77 t77 rfl r77 mixed hl h
noncomputable def e91:Env:=⟨Tryz.prog,[],30,[]⟩
noncomputable def c91:C:=
 .seq (.reg [zC 4 0]) (.seq (.reg [zC 5 0]) (.seq (.seq (.reg [z3 8 1,zG 9 8,zC 10 0]) (.block 0 (.loop (.seq (.reg [zQ 11 10 9]) (.seq (.cond (.tmp 11) .skip (.exit 0)) (.seq (.block 1 (.seq (.reg [z3 12 10,z9 13 1 8 10,z5 14 1 13,z3 6 12,z3 7 14]) (.seq (.reg [z3 15 7]) (.cond (.tmp 15) (.reg [z3 16 5,z3 17 0,z6 18 17,z4 19 4 18,z5 20 1 19,z3 21 6,z9 22 8 20 21,z4 23 7 22,z5 24 1 23,zG 25
 24,zi 26 1 25,q7 27 16 26,z3 5 27]) .skip)))) (.reg [zN 28 10 1,z3 10 28]))))))) (.seq (.reg [z3 29 5,z3 4 29]) .ret)))
theorem t91:Tryz.f91.body.bind (trC e91)=some c91:=by kernel_rfl
theorem r91:Tryz.f91.results.toList.mapM (trR Tryz.prog)=some [.tmp 4]:=by kernel_rfl
theorem fn91{args:List Value}{M:Mem}{post:Value→Mem→Prop}(hl:args.length≤30)(h:VC e91 c91 (fnQ [.tmp 4] post) (initS args 30) M):Fn Tryz.prog 91 args M post:=
 Fn.of' (E:=e91) Tryz.func91 t91 rfl r91 mixed hl h
noncomputable def e54:Env:=⟨Tryz.prog,[],13,[]⟩
noncomputable def c54:C:=
 .seq (.reg [zC 2 0]) (.seq (.reg [z3 6 0,zM 7 90 6,z3 5 7,q8 8 5 0,q8 9 5 1,z3 3 8,z3 4 9]) (.seq (.reg [z3 10 0,z3 11 3,zU 12 91 10 11,z3 2 12]) .ret))
theorem t54:Tryz.f54.body.bind (trC e54)=some c54:=by kernel_rfl
theorem r54:Tryz.f54.results.toList.mapM (trR Tryz.prog)=some [.tmp 2]:=by kernel_rfl
theorem fn54{args:List Value}{M:Mem}{post:Value→Mem→Prop}(hl:args.length≤13)(h:VC e54 c54 (fnQ [.tmp 2] post) (initS args 13) M):Fn Tryz.prog 54 args M post:=
 Fn.of' (E:=e54) Tryz.func54 t54 rfl r54 mixed hl h
noncomputable def e38:Env:=⟨Tryz.prog,[5],39,[(5,20)]⟩
noncomputable def c38:C:=
 .seq (.reg [zC 2 0]) (.seq (.reg [zC 3 (-1)]) (.seq (.seq (.reg [z3 6 0,z6 7 6,z4 8 4 7,z5 9 1 8,zG 10 9,zC 11 0]) (.block 0 (.loop (.seq (.reg [zQ 12 11 10]) (.seq (.cond (.tmp 12) .skip (.exit 0)) (.seq (.block 1 (.seq (.reg [z3 13 11,z9 14 8 9 11,zA 15 8 14,zX 5 0 0 0 0 0 0 0 0 0,z3 4 13,z8 8 5 15]) (.seq (.dreg 20 [z4 16 3 5,z5 17 1 16,z7 18 17 2,z3 19 18,zF 20 19 3,⟨some 21,some (19,
 true),.bin .lss (.tmp 20) (.const (.int .i64 0))⟩,zF 22 19 21,zI 23 22 4 5,zK 24 22 1 23,zP 25 22 0,zY 26 22 25,zI 27 22 4 26,zK 28 22 1 27,zP 29 22 3,qF 30 22 8 28 29,zI 31 22 4 30,zK 32 22 1 31,qZ 33 22 24 32,qJ 34 19 22 33,zJ 35 19 34]) (.cond (.tmp 35) (.reg [z3 36 4,z3 3 36]) .skip)))) (.reg [zN 37 11 1,z3 11 37]))))))) (.seq (.reg [z3 38 3,z3 2 38]) .ret)))
theorem t38:Tryz.f38.body.bind (trC e38)=some c38:=by kernel_rfl
theorem r38:Tryz.f38.results.toList.mapM (trR Tryz.prog)=some [.tmp 2]:=by kernel_rfl
theorem fn38{args:List Value}{M:Mem}{post:Value→Mem→Prop}(hl:args.length≤39)(h:VC e38 c38 (fnQ [.tmp 2] post) (initS args 39) M):Fn Tryz.prog 38 args M post:=
 Fn.of' (E:=e38) Tryz.func38 t38 rfl r38 mixed hl h
noncomputable def e14:Env:=⟨Tryz.prog,[],7,[]⟩
noncomputable def c14:C:=
 .seq (.reg [zt 1 0,zC 2 0]) (.seq (.seq (.reg [zA 3 13 1,zM 4 30 3,zk 5 4 0]) (.cond (.tmp 5) (.seq (.reg [zC 2 (-1)]) .ret) .skip)) (.seq (.reg [zM 6 38 1,z3 2 6]) .ret))
theorem t14:Tryz.f14.body.bind (trC e14)=some c14:=by kernel_rfl
theorem r14:Tryz.f14.results.toList.mapM (trR Tryz.prog)=some [.tmp 2]:=by kernel_rfl
theorem fn14{args:List Value}{M:Mem}{post:Value→Mem→Prop}(hl:args.length≤7)(h:VC e14 c14 (fnQ [.tmp 2] post) (initS args 7) M):Fn Tryz.prog 14 args M post:=
 Fn.of' (E:=e14) Tryz.func14 t14 rfl r14 mixed hl h
end Go.Proofs.YtcjmodomfilagaaGreat.E
set_option linter.unusedSimpArgs false
set_option maxHeartbeats 4000000
namespace Go.Proofs.YtcjmodomfilagaaGreat.E
open Go
open Classical
theorem sound_q{m:Mem}{x:HX}(h:Has m x.body):Qt Tryz.prog 25 [x.v] m (.bool (decide (okH x.H=0))):=by
 refine qt_of (fnA_of (fun h=>fn25 (by simp) h) ?_)
 repeat' (first
  |(refine k_L ?_;first|refine a_p rfl ?_|(refine k_bx ?_;refine a_bx rfl rfl ?_)|(refine k_c ?_;refine a_cq rfl (fun m hm=>implHeapOk_q (x:=x) (has_g h hm)) ?_))
  |refine a_n ?_
  |(refine k_V ?_;first|refine v_seq ?_|refine v_reg ?_|refine v_ret ?_))
 exact fa_q (by simp) (fun _ _=>rfl) rfl
theorem qt_e{P:Program}{f:FuncId}{args:List Value}{m:Mem}{r r':Value}(h:Qt P f args m r)(e:r=r'):Qt P f args m r':=e▸h
noncomputable def ndG(H:Heap):Nat→Int
 |0=> -1
 |i+1=>if(H.getC i).last=2∧(ndG H i<0∨(H.getC i).born<(H.getC (ndG H i)).born)then(i:Int)else ndG H i
theorem ndG_lt(H:Heap):∀i,-1≤ndG H i∧ndG H i<i
 |0=>by simp[ndG]
 |i+1=>by
  have:=ndG_lt H i
  unfold ndG
  split<;>omega
noncomputable def Heap.nextDue(H:Heap):Int:=if okH H=0 then ndG H H.cells.length else-1
theorem getC_nat{H:Heap}{i:Nat}{c:Cell}(h:H.cells[i]?=some c):H.getC (i:Int)=c:=by
 unfold Heap.getC
 simp[h]
theorem last2{H:Heap}(h:R2 H){i:Nat}{c:Cell}(hc:H.cells[i]?=some c)(hl:c.last=2):c.state=1:=by
 rcases h.each i c hc with h|h|h
 ·have:=h.2.1.2.2.1;omega
 ·have:=h.2.1.2.2.1;omega
 ·exact h.1
theorem nextDueLoop_q{m:Mem}{a:Nat}{x:HX}(h:Has m (hp a x))(h2:R2 x.H):Qt Tryz.prog 37 [ptr a] m (.int .i64 (ndG x.H x.H.cells.length)):=by
 have hb0:=h.lens
 have hl:=x.len
 refine qt_of (fnA_of (fun h=>fn37 (by simp) h) ?_)
 repeat' (first
  |(refine k_L ?_;first|refine a_p rfl ?_|(refine k_l ?_;refine g_l rfl ?_))
  |refine a_n ?_
  |(refine k_V ?_;first|refine v_seq ?_|refine v_reg ?_)
  |refine s_n ?_)
 refine g_range x.xs.length (fun n:Int=>[(0,.v (ptr a)),(3,.v (.int .i64 n)),(9,.v (.slice x.cd.a x.xs.length x.cd.cap))]) (fun _=>[ro m]) (fun i n=>n=ndG x.H i) (-1) rfl (fun i n hi hn=>?_) (fun n hn=>?_)
 ·obtain⟨y,gy,gc⟩:=HX.at hi
  have gi:=getC_nat gc
  have hb:=ndG_lt x.H i
  have hs:=last2 h2 gc
  by_cases hn0:n<0
  ·have e:ndG x.H (i+1)=if y.c.last=2 then(i:Int)else n:=by
    show(if _ then _ else _)=_
    rw[gi,←hn];simp[hn0]
   repeat' (first
    |(refine k_L ?_;first|refine a_p rfl ?_|(refine k_g ?_;first|refine a_gy rfl rfl ?_|refine a_gn rfl rfl ?_|refine a_gu rfl ?_|(refine a_gd rfl (fun hb=>?_) (fun hb=>?_)<;>try(exfalso;omega)))|(refine k_i ?_;refine g_i rfl rfl ?_)|(refine k_ls ?_;refine g_ls rfl ?_)|(refine k_st ?_;refine g_sw rfl rfl rfl rfl (Nat.le_of_ble_eq_true rfl) ?_)|(refine k_al ?_;refine a_al ?_))
    |refine a_n ?_
    |(refine k_V ?_;first|refine v_seq ?_|refine v_reg ?_|refine v_dreg ?_|refine v_skip ?_|refine v_ct rfl ?_|refine v_cf rfl ?_)
    |refine sk_zero ?_
    |refine sk_succ ?_
    |refine wk_nil ?_
    |refine wk_cons ?_)
   ·exact r_nx i (by rw[e];simp_all)
   ·exact r_nx n (by rw[e];simp_all)
   ·exact r_nx n (by rw[e,if_neg];intro hc;first|exact absurd (hs hc) ‹_›|exact absurd (hs hc.1) ‹_›)
  ·obtain⟨z,gz,gd⟩:=HX.atI (x:=x) (i:=n) (by omega) (by omega)
   have e:ndG x.H (i+1)=if y.c.last=2∧y.c.born<z.c.born then(i:Int)else n:=by
    show(if _ then _ else _)=_
    rw[gi,←hn,gd];simp[hn0]
   repeat' (first
    |(refine k_L ?_;first|refine a_p rfl ?_|(refine k_g ?_;first|refine a_gy rfl rfl ?_|refine a_gn rfl rfl ?_|refine a_gu rfl ?_|(refine a_gd rfl (fun hb=>?_) (fun hb=>?_)<;>try(exfalso;omega)))|(refine k_l ?_;refine g_l rfl ?_)|(refine k_i ?_;refine g_i rfl rfl ?_)|(refine k_ls ?_;refine g_ls rfl ?_)|(refine k_st ?_;refine g_sw rfl rfl rfl rfl (Nat.le_of_ble_eq_true rfl) ?_)|(refine k_al ?_;refine a_al ?_))
    |refine a_n ?_
    |(refine k_V ?_;first|refine v_seq ?_|refine v_reg ?_|refine v_dreg ?_|refine v_skip ?_|refine v_cf rfl ?_|(refine v_cd rfl (fun hb=>?_) (fun hb=>?_)<;>try(exfalso;omega)))
    |refine sk_zero ?_
    |refine sk_succ ?_
    |refine wk_nil ?_
    |refine wk_cons ?_)
   ·exact r_nx i (by rw[e];simp_all)
   ·exact r_nx n (by rw[e,if_neg (fun hc=>absurd hc.2 ‹_›)])
   ·exact r_nx n (by rw[e];simp_all)
   ·exact r_nx n (by rw[e,if_neg];intro hc;first|exact absurd (hs hc) ‹_›|exact absurd (hs hc.1) ‹_›)
 ·subst hn
  repeat' (first
   |(refine k_L ?_;refine a_p rfl ?_)
   |refine a_n ?_
   |(refine k_V ?_;first|refine v_seq ?_|refine v_reg ?_|refine v_ret ?_))
  exact fa_q (by simp) (fun _ _=>rfl) (by rw[hl])
theorem l4next_q{m:Mem}{a:Nat}{x:HX}(h:Has m (hp a x)):Qt Tryz.prog 38 [ptr a] m (.int .i64 (ndG x.H x.H.cells.length)):=by
 have hb0:=h.lens
 have hl:=x.len
 refine qt_of (fnA_of (fun h=>fn38 (by simp) h) ?_)
 repeat' (first
  |(refine k_L ?_;first|refine a_p rfl ?_|(refine k_l ?_;refine g_l rfl ?_))
  |refine a_n ?_
  |(refine k_V ?_;first|refine v_seq ?_|refine v_reg ?_)
  |refine s_n ?_)
 refine g_range x.xs.length (fun n:Int=>[(0,.v (ptr a)),(3,.v (.int .i64 n)),(9,.v (.slice x.cd.a x.xs.length x.cd.cap))]) (fun _=>[ro m]) (fun i n=>n=ndG x.H i) (-1) rfl (fun i n hi hn=>?_) (fun n hn=>?_)
 ·obtain⟨y,gy,gc⟩:=HX.at hi
  have gi:=getC_nat gc
  have hb:=ndG_lt x.H i
  by_cases hn0:n<0
  ·have e:ndG x.H (i+1)=if y.c.last=2 then(i:Int)else n:=by
    show(if _ then _ else _)=_
    rw[gi,←hn];simp[hn0]
   repeat' (first
    |(refine k_L ?_;first|refine a_p rfl ?_|(refine k_g ?_;first|refine a_gy rfl rfl ?_|refine a_gn rfl rfl ?_|refine a_gu rfl ?_|(refine a_gd rfl (fun hb=>?_) (fun hb=>?_)<;>try(exfalso;omega)))|(refine k_i ?_;refine g_i rfl rfl ?_)|(refine k_ls ?_;refine g_ls rfl ?_)|(refine k_st ?_;refine g_sw rfl rfl rfl rfl (Nat.le_of_ble_eq_true rfl) ?_)|(refine k_al ?_;refine a_al ?_))
    |refine a_n ?_
    |(refine k_V ?_;first|refine v_seq ?_|refine v_reg ?_|refine v_dreg ?_|refine v_skip ?_|refine v_ct rfl ?_|refine v_cf rfl ?_)
    |refine sk_zero ?_
    |refine sk_succ ?_
    |refine wk_nil ?_
    |refine wk_cons ?_)
   ·exact r_nx i (by rw[e];simp_all)
   ·exact r_nx n (by rw[e];simp_all)
  ·obtain⟨z,gz,gd⟩:=HX.atI (x:=x) (i:=n) (by omega) (by omega)
   have e:ndG x.H (i+1)=if y.c.last=2∧y.c.born<z.c.born then(i:Int)else n:=by
    show(if _ then _ else _)=_
    rw[gi,←hn,gd];simp[hn0]
   repeat' (first
    |(refine k_L ?_;first|refine a_p rfl ?_|(refine k_g ?_;first|refine a_gy rfl rfl ?_|refine a_gn rfl rfl ?_|refine a_gu rfl ?_|(refine a_gd rfl (fun hb=>?_) (fun hb=>?_)<;>try(exfalso;omega)))|(refine k_l ?_;refine g_l rfl ?_)|(refine k_i ?_;refine g_i rfl rfl ?_)|(refine k_ls ?_;refine g_ls rfl ?_)|(refine k_st ?_;refine g_sw rfl rfl rfl rfl (Nat.le_of_ble_eq_true rfl) ?_)|(refine k_al ?_;refine a_al ?_))
    |refine a_n ?_
    |(refine k_V ?_;first|refine v_seq ?_|refine v_reg ?_|refine v_dreg ?_|refine v_skip ?_|refine v_cf rfl ?_|(refine v_cd rfl (fun hb=>?_) (fun hb=>?_)<;>try(exfalso;omega)))
    |refine sk_zero ?_
    |refine sk_succ ?_
    |refine wk_nil ?_
    |refine wk_cons ?_)
   ·exact r_nx i (by rw[e];simp_all)
   ·exact r_nx n (by rw[e,if_neg (fun hc=>absurd hc.2 ‹_›)])
   ·exact r_nx n (by rw[e];simp_all)
 ·subst hn
  repeat' (first
   |(refine k_L ?_;refine a_p rfl ?_)
   |refine a_n ?_
   |(refine k_V ?_;first|refine v_seq ?_|refine v_reg ?_|refine v_ret ?_))
  exact fa_q (by simp) (fun _ _=>rfl) (by rw[hl])
theorem implNextDue_q{m:Mem}{x:HX}(h:Has m x.body):Qt Tryz.prog 13 [x.v] m (.int .i64 x.H.nextDue):=by
 unfold Heap.nextDue
 by_cases hS:okH x.H=0
 ·have h2:=((okH_sound x.H).1 hS).r2
  refine qt_of (fnA_of (fun h=>fn13 (by simp) h) ?_)
  refine v_seq (v_reg (a_nwh x rfl (fun b=>?_)))
  have hs:∀m',star [hdA b x.hdr,ro m] m'→Has m' (hp b x):=fun m' s=>has_new h s pmt (F:=[])
  repeat' (first
   |(refine k_L ?_;first|refine a_p rfl ?_|(refine k_ls ?_;refine g_ls rfl ?_)|(refine k_c ?_;first|refine a_cq rfl (fun m hm=>qt_e (sound_q (x:=x) (has_g h hm)) (congrArg Value.bool (decide_eq_true hS))) ?_|refine a_cq rfl (fun m hm=>nextDueLoop_q (hs m hm) h2) ?_))
   |refine a_n ?_
   |(refine k_V ?_;first|refine v_seq ?_|refine v_reg ?_|refine v_ret ?_|refine v_skip ?_|refine v_cf rfl ?_))
  exact fa_q (by simp) (fun _ _=>rfl) (by rw[if_pos hS])
 ·refine qt_of (fnA_of (fun h=>fn13 (by simp) h) ?_)
  refine v_seq (v_reg (a_nwh x rfl (fun b=>?_)))
  repeat' (first
   |(refine k_L ?_;first|refine a_p rfl ?_|(refine k_ls ?_;refine g_ls rfl ?_)|(refine k_c ?_;refine a_cq rfl (fun m hm=>qt_e (sound_q (x:=x) (has_g h hm)) (congrArg Value.bool (decide_eq_false hS))) ?_))
   |refine a_n ?_
   |(refine k_V ?_;first|refine v_rv ?_|refine v_seq ?_|refine v_reg ?_|refine v_ct rfl ?_)
   |refine s_r ?_)
  exact fa_q (by simp) (fun _ _=>rfl) (by rw[if_neg hS])
theorem specNextDue_q{m:Mem}{x:HX}(h:Has m x.body):Qt Tryz.prog 14 [x.v] m (.int .i64 x.H.nextDue):=by
 unfold Heap.nextDue
 refine qt_of (fnA_of (fun h=>fn14 (by simp) h) ?_)
 refine v_seq (v_reg (a_nwh x rfl (fun b=>?_)))
 have hs:∀m',star [hdA b x.hdr,ro m] m'→Has m' (hp b x):=fun m' s=>has_new h s pmt (F:=[])
 repeat' (first
  |(refine k_L ?_;first|refine a_p rfl ?_|(refine k_ls ?_;refine g_ls rfl ?_)|(refine k_c ?_;first|refine a_cq rfl (fun m hm=>specHeapOk_q (x:=x) (has_g h hm)) ?_|refine a_cq rfl (fun m hm=>l4next_q (hs m hm)) ?_))
  |refine a_n ?_
  |(refine k_V ?_;first|refine v_rv ?_|refine v_seq ?_|refine v_reg ?_|refine v_ret ?_|refine v_skip ?_|(refine v_cn rfl (fun hb=>?_) (fun hb=>?_)<;>try(exfalso;omega)))
  |refine s_r ?_)
 ·exact fa_q (by simp) (fun _ _=>rfl) (by rw[if_neg ‹_›])
 ·exact fa_q (by simp) (fun _ _=>rfl) (by rw[if_pos ‹_›])
def Heap.tgt(H:Heap)(w:Word):Option Nat:=if(H.lead w).kind=2 then some (H.lead w).at_.toNat else none
inductive Reached (H:Heap):Nat→Prop
 |reg {w:Word} {j:Nat}:w∈H.regs→H.tgt w=some j→Reached H j
 |root {i:Nat} {c:Cell}:H.cells[i]?=some c→Root c→Reached H i
 |pair {i j:Nat} {c:Cell} {p:Pair} {w:Word}:Reached H i→H.cells[i]?=some c→p∈c.pairs→(w=p.key∨w=p.val)→H.tgt w=some j→Reached H j
theorem lead_kind{H:Heap}{w:Word}:(H.lead w).kind=2↔w.kind=2:=by
 unfold Heap.lead
 split
 ·rename_i h;simp[h.1]
 ·rfl
theorem lead_at{H:Heap}(h:R2 H){w:Word}(hf:Formed H w)(hk:w.kind=2):0≤(H.lead w).at_∧(H.lead w).at_<H.cells.length:=by
 have hat:=hf.at hk
 unfold Heap.lead
 split
 ·rename_i hc
  obtain⟨c,hcc⟩:∃c,H.cells[w.at_.toNat]?=some c:=⟨_,List.getElem?_eq_getElem (by omega)⟩
  have hg:H.getC w.at_=c:=by unfold Heap.getC;simp[hcc]
  have hcc':=hcc
  rcases h.each _ c hcc with h1|h1|h1
  ·rw[hg]at hc;have:=h1.1;omega
  ·rw[hg]
   have:=h1.2.2.2.1
   simp only at this⊢
   omega
  ·rw[hg]at hc;have:=h1.1;omega
 ·exact hat
theorem tgt_lt{H:Heap}(h:R2 H){w:Word}(hf:Formed H w){j:Nat}(ht:H.tgt w=some j):j<H.cells.length∧(H.lead w).kind=2∧(H.lead w).at_=j:=by
 unfold Heap.tgt at ht
 split at ht
 ·rename_i hk
  simp only[Option.some.injEq]at ht
  have:=lead_at h hf (lead_kind.1 hk)
  exact⟨by omega,hk,by omega⟩
 ·cases ht
def mkW(H:Heap)(s:List Bool×List Int)(w:Word):List Bool×List Int:=
 match H.tgt w with
 |some j=>if s.1[j]?=some false then(s.1.set j true,s.2++[(j:Int)])else s
 |none=>s
def Hit(H:Heap)(seen:List Bool)(w:Word):Prop:=∀j,H.tgt w=some j→seen[j]?=some true
structure Mk (H:Heap) (S:Nat→Prop) (s:List Bool×List Int):Prop where
 len:s.1.length=H.cells.length
 snd:∀j,s.1[j]?=some true→S j
 stk:∀g,g∈s.2→∃j:Nat,g=j∧s.1[j]?=some true
 cnt:s.2.length+s.1.count false≤H.cells.length
structure Grow (s t:List Bool×List Int):Prop where
 mono:∀j:Nat,s.1[j]?=some true→t.1[j]?=some true
 new:∀j:Nat,t.1[j]?=some true→s.1[j]?=some true∨(j:Int)∈t.2
 old:∀g,g∈s.2→g∈t.2
 msr:2*t.1.count false+t.2.length≤2*s.1.count false+s.2.length
 pre:s.2<+:t.2
theorem Grow.refl(s:List Bool×List Int):Grow s s:=⟨fun _ h=>h,fun _ h=>.inl h,fun _ h=>h,Nat.le_refl _,List.prefix_refl _⟩
theorem Grow.trans{s t u:List Bool×List Int}(h:Grow s t)(k:Grow t u):Grow s u:=
 ⟨fun j hj=>k.mono j (h.mono j hj),fun j hj=>(k.new j hj).elim (fun h'=>(h.new j h').elim .inl fun h''=>.inr (k.old _ h'')) .inr,fun g hg=>k.old g (h.old g hg),Nat.le_trans k.msr h.msr,h.pre.trans k.pre⟩
theorem Hit.grow{H:Heap}{s t:List Bool×List Int}{w:Word}(h:Hit H s.1 w)(g:Grow s t):Hit H t.1 w:=fun j hj=>g.mono j (h j hj)
theorem count_set{l:List Bool}{j:Nat}(h:l[j]?=some false):(l.set j true).count false+1=l.count false:=by
 induction l generalizing j with
 |nil=>simp at h
 |cons b r ih=>
  cases j with
  |zero=>simp only[List.getElem?_cons_zero,Option.some.injEq]at h;subst h;simp
  |succ j=>
   simp only[List.getElem?_cons_succ]at h
   have:=ih h
   simp only[List.set_cons_succ,List.count_cons]
   omega
theorem mkW_ok{H:Heap}{S:Nat→Prop}{s:List Bool×List Int}{w:Word}(h:Mk H S s)(hw:∀j,H.tgt w=some j→j<H.cells.length∧S j):Mk H S (mkW H s w)∧Grow s (mkW H s w)∧Hit H (mkW H s w).1 w:=by
 unfold mkW
 cases ht:H.tgt w with
 |none=>exact⟨h,Grow.refl s,fun j hj=>by rw[ht]at hj;cases hj⟩
 |some j=>
  obtain⟨hj,hS⟩:=hw j ht
  simp only
  by_cases hs:s.1[j]?=some false
  ·rw[if_pos hs]
   have hc:=count_set hs
   have hjl:j<s.1.length:=by rw[h.len];exact hj
   have hset:∀k:Nat,(s.1.set j true)[k]?=some true↔k=j∨s.1[k]?=some true:=by
    intro k
    rw[List.getElem?_set]
    by_cases e:j=k
    ·subst e;simp[hjl]
    ·simp only[e,if_false]
     constructor
     ·exact .inr
     ·rintro(h|h)
      ·exact absurd h.symm e
      ·exact h
   refine⟨⟨by simpa using h.len,fun k hk=>?_,fun g hg=>?_,?_⟩,⟨fun k hk=>(hset k).2 (.inr hk),fun k hk=>?_,fun g hg=>List.mem_append_left _ hg,?_,List.prefix_append _ _⟩,fun k hk=>?_⟩
   ·rcases(hset k).1 hk with rfl|hk
    ·exact hS
    ·exact h.snd k hk
   ·rcases List.mem_append.1 hg with hg|hg
    ·obtain⟨k,e,hk⟩:=h.stk g hg
     exact⟨k,e,(hset k).2 (.inr hk)⟩
    ·exact⟨j,by simpa using hg,(hset j).2 (.inl rfl)⟩
   ·have:=h.cnt
    simp only[List.length_append,List.length_singleton]
    omega
   ·rcases(hset k).1 hk with rfl|hk
    ·exact .inr (List.mem_append_right _ (by simp))
    ·exact .inl hk
   ·simp only[List.length_append,List.length_singleton]
    omega
   ·rw[ht]at hk
    cases hk
    exact(hset j).2 (.inl rfl)
  ·rw[if_neg hs]
   refine⟨h,Grow.refl s,fun k hk=>?_⟩
   rw[ht]at hk
   cases hk
   have hjl:j<s.1.length:=by rw[h.len];exact hj
   rw[List.getElem?_eq_getElem hjl]at hs⊢
   cases hb:s.1[j]with
   |true=>rfl
   |false=>rw[hb]at hs;exact absurd rfl hs
noncomputable def reachL(H:Heap):List Bool:=(List.range H.cells.length).map fun i=>decide (Reached H i)
structure Full (H:Heap) (seen:List Bool):Prop where
 regs:∀w,w∈H.regs→Hit H seen w
 roots:∀(i:Nat) c,H.cells[i]?=some c→Root c→seen[i]?=some true
def Closed(H:Heap)(seen:List Bool)(open_:Nat→Prop):Prop:=∀(i:Nat) c,seen[i]?=some true→¬open_ i→H.cells[i]?=some c→∀p,p∈c.pairs→Hit H seen p.key∧Hit H seen p.val
theorem reach_end{H:Heap}{s:List Bool×List Int}(h:Mk H (Reached H) s)(hf:Full H s.1)(hc:Closed H s.1 fun _=>False):s.1=reachL H:=by
 have key:∀j,Reached H j→s.1[j]?=some true:=by
  intro j hj
  induction hj with
  |reg h1 h2=>exact hf.regs _ h1 _ h2
  |root h1 h2=>exact hf.roots _ _ h1 h2
  |pair _ h2 h3 h4 h5 ih=>
   have:=hc _ _ ih (fun h=>h) h2 _ h3
   rcases h4 with rfl|rfl
   ·exact this.1 _ h5
   ·exact this.2 _ h5
 unfold reachL
 apply List.ext_getElem?
 intro i
 by_cases hi:i<H.cells.length
 ·rw[List.getElem?_map,List.getElem?_range hi]
  simp only[Option.map_some]
  have hl:i<s.1.length:=by rw[h.len];exact hi
  rw[List.getElem?_eq_getElem hl]
  congr 1
  cases hb:s.1[i]with
  |true=>
   have:Reached H i:=h.snd i (by rw[List.getElem?_eq_getElem hl,hb])
   simp[this]
  |false=>
   have:¬Reached H i:=fun hr=>by
    have:=key i hr
    rw[List.getElem?_eq_getElem hl,hb]at this
    cases this
   simp[this]
 ·rw[List.getElem?_eq_none (by rw[h.len];omega),List.getElem?_eq_none (by simp;omega)]
def Cell.zero:Cell:=⟨0,0,0,0,0,0,0,[]⟩
def Cell.col(c:Cell)(k:Int):Cell:={c with color:=k}
theorem set_gt{α:Type}{l:List α}{i j:Nat}{a c:α}(h:(l.set i a)[j]?=some c):(j=i∧c=a∧i<l.length)∨(j≠i∧l[j]?=some c):=by
 rw[List.getElem?_set]at h
 split at h
 ·rename_i e
  subst e
  split at h
  ·rename_i hl;cases h;exact .inl ⟨rfl,rfl,hl⟩
  ·cases h
 ·rename_i e;exact .inr ⟨fun e'=>e e'.symm,h⟩
def getL(cs:List Cell)(j:Int):Cell:=cs.getD j.toNat Cell.zero
theorem getC_L(H:Heap)(j:Int):H.getC j=getL H.cells j:=rfl
theorem getL_at{cs:List Cell}{i:Nat}{c:Cell}{j:Int}(h:cs[i]?=some c)(e:j.toNat=i):getL cs j=c:=by
 unfold getL;rw[e,List.getD_eq_getElem?_getD,h];rfl
theorem getL_set{cs:List Cell}{i:Nat}{a:Cell}{j:Int}(hi:i<cs.length):getL (cs.set i a) j=if j.toNat=i then a else getL cs j:=by
 unfold getL
 rw[List.getD_eq_getElem?_getD,List.getD_eq_getElem?_getD,List.getElem?_set]
 by_cases e:i=j.toNat
 ·rw[if_pos e,if_pos hi,if_pos e.symm];rfl
 ·rw[if_neg e,if_neg (fun h=>e h.symm)]
theorem getL_some{cs:List Cell}{j:Int}(h0:0≤j)(h1:j<cs.length):cs[j.toNat]?=some (getL cs j):=by
 unfold getL
 rw[List.getD_eq_getElem?_getD,List.getElem?_eq_getElem (by omega)];rfl
theorem units_set:∀{cs:List Cell} {i:Nat} {c d:Cell},cs[i]?=some c→unitsN (cs.set i d)=unitsN cs-c.units+d.units
 |[],i,c,d,h=>by simp at h
 |a::r,0,c,d,h=>by
  simp only[List.getElem?_cons_zero,Option.some.injEq]at h
  subst h
  simp only[unitsN,List.set_cons_zero,List.map_cons,List.sum_cons];omega
 |a::r,i+1,c,d,h=>by
  simp only[List.getElem?_cons_succ]at h
  have:=units_set (d:=d) h
  simp only[unitsN,List.set_cons_succ,List.map_cons,List.sum_cons]at this⊢;omega
theorem nodup_len:∀(n:Nat) (l:List Int),l.Nodup→(∀g,g∈l→0≤g∧g<n)→l.length≤n
 |0,l,_,h=>by
  cases l with
  |nil=>simp
  |cons a r=>have:=h a (by simp);omega
 |n+1,l,hn,h=>by
  by_cases hm:(n:Int)∈l
  ·have h1:=nodup_len n (l.erase n) (hn.erase _) (fun g hg=>by
    have h2:=h g (List.mem_of_mem_erase hg)
    have h3:=(hn.mem_erase_iff.1 hg).1
    omega)
   rw[List.length_erase_of_mem hm]at h1
   omega
  ·have:=nodup_len n l hn (fun g hg=>by
    have h2:=h g hg
    have:g≠n:=fun e=>hm (by rw[←e];exact hg)
    omega)
   omega
theorem R2.bare{H:Heap}(h:R2 H){i:Nat}{c:Cell}(hc:H.cells[i]?=some c)(hu:c.state≠1):Bare c:=by
 rcases h.each i c hc with h|h|h
 ·exact h.2.1
 ·exact h.2.1
 ·exact absurd h.1 hu
theorem R2.state{H:Heap}(h:R2 H){i:Nat}{c:Cell}(hc:H.cells[i]?=some c)(hp:H.phase<4):c.state=0∨c.state=1:=by
 rcases h.each i c hc with h|h|h
 ·exact .inl h.1
 ·have:=h.2.2.1;omega
 ·exact .inr h.1
theorem orig{l:List Cell}{i j:Nat}{c d e:Cell}(hc:l[i]?=some c)(hd:(l.set i e)[j]?=some d):∃d0,l[j]?=some d0∧(j=i∧d0=c∧d=e∨j≠i∧d=d0):=by
 rcases set_gt hd with⟨rfl,rfl,_⟩|⟨h,hd⟩
 ·exact⟨c,hc,.inl ⟨rfl,rfl,rfl⟩⟩
 ·exact⟨d,hd,.inr ⟨h,rfl⟩⟩
theorem col_state{H H':Heap}{i:Nat}{c:Cell}{k:Int}(hc:H.cells[i]?=some c)(e1:H'.cells=H.cells.set i (c.col k))(j:Int):(H'.getC j).state=(H.getC j).state∧(H'.getC j).pairs=(H.getC j).pairs∧(H'.getC j).to=(H.getC j).to:=by
 have hlt:=(List.getElem?_eq_some_iff.1 hc).1
 rw[getC_L,getC_L,e1,getL_set hlt]
 by_cases e:j.toNat=i
 ·rw[if_pos e,getL_at hc e];exact⟨rfl,rfl,rfl⟩
 ·rw[if_neg e];exact⟨rfl,rfl,rfl⟩
theorem col_r2{H H':Heap}{i:Nat}{c:Cell}{k:Int}(h:R2 H)(hc:H.cells[i]?=some c)(hu:c.state=1)(hk:0≤k∧k≤2)(e1:H'.cells=H.cells.set i (c.col k))(e2:H'.born=H.born)(e3:H'.phase=H.phase):R2 H':=by
 have gs:=fun j=>(col_state hc e1 j).1
 refine⟨fun j d hd=>?_,fun j l d e hd he hjl h1 h2=>?_,fun j l d e hd he hjl h1 h2=>?_⟩
 ·rw[e1]at hd
  obtain⟨d0,hd0,⟨rfl,rfl,rfl⟩|⟨_,rfl⟩⟩:=orig hc hd
  ·obtain⟨_,a2,a3,a4,a5,a6,a7⟩:=h.used hd0 hu
   exact .inr (.inr ⟨hu,a2,a3,a4,by rw[e2];exact a5,hk,a7⟩)
  ·rcases h.each j d hd0 with h1|h1|h1
   ·exact .inl h1
   ·obtain⟨a1,a2,a3,a4,a5,a6⟩:=h1
    exact .inr (.inl ⟨a1,a2,by rw[e3];exact a3,a4,by rw[gs];exact a5,fun hp k h0 h1=>by rw[gs];exact a6 (by rw[←e3];exact hp) k h0 h1⟩)
   ·obtain⟨a1,a2,a3,a4,a5,a6⟩:=h1
    exact .inr (.inr ⟨a1,a2,a3,a4,by rw[e2];exact a5,a6⟩)
 ·rw[e1]at hd he
  obtain⟨d0,hd0,x⟩:=orig hc hd
  obtain⟨f0,he0,y⟩:=orig hc he
  have b1:d.born=d0.born∧d.state=d0.state:=by rcases x with⟨_,rfl,rfl⟩|⟨_,rfl⟩<;>exact⟨rfl,rfl⟩
  have b2:e.born=f0.born∧e.state=f0.state:=by rcases y with⟨_,rfl,rfl⟩|⟨_,rfl⟩<;>exact⟨rfl,rfl⟩
  rw[b1.1,b2.1]
  exact h.born j l d0 f0 hd0 he0 hjl (b1.2▸h1) (b2.2▸h2)
 ·rw[e1]at hd he
  obtain⟨d0,hd0,x⟩:=orig hc hd
  obtain⟨f0,he0,y⟩:=orig hc he
  have b1:d.to=d0.to∧d.state=d0.state:=by rcases x with⟨_,rfl,rfl⟩|⟨_,rfl⟩<;>exact⟨rfl,rfl⟩
  have b2:e.to=f0.to∧e.state=f0.state:=by rcases y with⟨_,rfl,rfl⟩|⟨_,rfl⟩<;>exact⟨rfl,rfl⟩
  rw[b1.1,b2.1]
  exact h.to j l d0 f0 hd0 he0 hjl (b1.2▸h1) (b2.2▸h2)
theorem col_r3{H H':Heap}{i:Nat}{c:Cell}{k:Int}(h:R3 H)(hc:H.cells[i]?=some c)(e1:H'.cells=H.cells.set i (c.col k))(e2:H'.used=H.used)(e3:H'.room=H.room):R3 H':=by
 unfold R3 at*
 rw[e1,e2,e3,units_set hc]
 have:(c.col k).units=c.units:=rfl
 rw[this];omega
theorem leads_of{H H':Heap}{w:Word}{m m':Prop}(hs:∀j,(H'.getC j).state=(H.getC j).state)(hd:∀j,Doomed H' j→Doomed H j)(hm:m→m')(h:LeadsWell H w m):LeadsWell H' w m':=fun hk=>by
 rw[hs]
 rcases h hk with⟨a,b⟩|⟨a,b⟩
 ·exact .inl ⟨a,fun h=>b (hd _ h)⟩
 ·exact .inr ⟨a,hm b⟩
theorem formed_len{H H':Heap}{w:Word}(hl:H'.cells.length=H.cells.length)(h:Formed H w):Formed H' w:=by unfold Formed at*;rw[hl];exact h
theorem r4_frame{H H':Heap}(h:R4 H)(hl:H'.cells.length=H.cells.length)(hr:H'.regs=H.regs)(hs:∀j,(H'.getC j).state=(H.getC j).state)(hd:∀j,Doomed H' j↔Doomed H j)
 (ho:∀(j:Nat) d,H'.cells[j]?=some d→∃d0,H.cells[j]?=some d0∧d.pairs=d0.pairs∧(Root d→Root d0))
 (hm:∀(j k:Nat) d p,H.cells[j]?=some d→d.pairs[k]?=some p→Mended H' j k→Mended H j k):R4 H':=by
 refine⟨fun w hw=>?_,fun i c hc hdm hrt=>?_,fun i c hc k p hp=>?_⟩
 ·obtain⟨a,b⟩:=h.regs w (by rw[←hr];exact hw)
  exact⟨formed_len hl a,leads_of hs (fun j=>(hd j).1) id b⟩
 ·obtain⟨d0,h0,_,h2⟩:=ho i c hc
  exact h.roots i d0 h0 ((hd i).1 hdm) (h2 hrt)
 ·obtain⟨d0,h0,h1,_⟩:=ho i c hc
  rw[h1]at hp
  obtain⟨a,b,g⟩:=h.pairs i d0 h0 k p hp
  refine⟨formed_len hl a,formed_len hl b,fun hn=>?_⟩
  obtain⟨g1,g2⟩:=g (fun h'=>hn ((hd i).2 h'))
  have hmm:¬Mended H i k→¬Mended H' i k:=fun a b=>a (hm i k d0 p h0 hp b)
  exact⟨leads_of hs (fun j=>(hd j).1) hmm g1,leads_of hs (fun j=>(hd j).1) hmm g2⟩
theorem same_orig{H H':Heap}(e:H'.cells=H.cells):∀(j:Nat) d,H'.cells[j]?=some d→∃d0,H.cells[j]?=some d0∧d.pairs=d0.pairs∧(Root d→Root d0):=fun j d hd=>⟨d,by rw[←e];exact hd,rfl,id⟩
theorem col_orig{H H':Heap}{i:Nat}{c:Cell}{k:Int}(hc:H.cells[i]?=some c)(e:H'.cells=H.cells.set i (c.col k)):∀(j:Nat) d,H'.cells[j]?=some d→∃d0,H.cells[j]?=some d0∧d.pairs=d0.pairs∧(Root d→Root d0):=fun j d hd=>by
 rw[e]at hd
 obtain⟨d0,hd0,⟨rfl,rfl,rfl⟩|⟨_,rfl⟩⟩:=orig hc hd
 ·exact⟨_,hd0,rfl,id⟩
 ·exact⟨d,hd0,rfl,id⟩
theorem not_mend{H:Heap}(hp:H.phase≠4∧H.phase≠5)(i k:Int):Mended H i k:=⟨hp.1,fun h=>absurd h hp.2⟩
theorem not_doom{H:Heap}(hp:H.phase≠3)(i:Int):¬Doomed H i:=fun h=>hp h.1
theorem r6_0{H:Heap}(hp:H.phase=0∨H.phase=4):R6 H↔H.hand=0∧H.sub=0:=by unfold R6;rw[if_pos hp]
theorem r6_2{H:Heap}(hp:H.phase=2):R6 H↔H.hand=0∧(match H.gray with|[]=>H.sub=0|g::_=>H.sub≤(H.getC g).pairs.length):=by unfold R6;rw[if_neg (by omega),if_pos hp];exact Iff.rfl
theorem r6_5{H:Heap}(hp:H.phase=5):R6 H↔(if H.hand<H.cells.length∧(H.getC H.hand).state=1 then H.sub≤(H.getC H.hand).pairs.length else H.sub=0):=by unfold R6;rw[if_neg (by omega),if_neg (by omega),if_pos hp]
theorem r6_e{H:Heap}(hp:H.phase≠0∧H.phase≠4∧H.phase≠2∧H.phase≠5):R6 H↔H.sub=0:=by unfold R6;rw[if_neg (by omega),if_neg (by omega),if_neg (by omega)]
theorem r6_2s{H:Heap}(hp:H.phase=2)(hh:H.hand=0)(hs:H.sub=0):R6 H:=by
 refine(r6_2 hp).2 ⟨hh,?_⟩
 rw[hs]
 cases H.gray with
 |nil=>rfl
 |cons a r=>simp
theorem R7.nil{H:Heap}(hp:¬Marking H):R7 H:=fun h=>absurd h hp
theorem R8.nil{H:Heap}(hp:H.phase≠6):R8 H:=fun h=>absurd h hp
def Heap.gray1(H:Heap)(i:Nat)(c:Cell):Heap:={H with cells:=H.cells.set i (c.col 1),gray:=H.gray++[(i:Int)]}
theorem gray1_sound{H:Heap}{i:Nat}{c:Cell}(h:Sound H)(hm:Marking H)(hc:H.cells[i]?=some c)(hu:c.state=1)(hw:c.color=0):Sound (H.gray1 i c):=by
 have hp:H.phase≠3∧H.phase≠4∧H.phase≠5∧H.phase≠6:=by rcases hm with e|e<;>rw[e]<;>omega
 have hp12:H.phase=1∨H.phase=2:=hm
 have hlt:=(List.getElem?_eq_some_iff.1 hc).1
 have hcs:=fun j=>col_state (H:=H) (H':=H.gray1 i c) (k:=1) hc rfl j
 obtain⟨g1,g2,g3⟩:=h.r5.mark hm
 have hi:(i:Int)∉H.gray:=fun hi=>by
  have:=(g2 _ hi).2.2.2
  rw[getC_nat hc,hw]at this;omega
 have gn:(H.gray++[(i:Int)]).Nodup:=List.nodup_append.2 ⟨g1,by simp,fun a ha b hb=>by simp at hb;subst hb;exact fun e=>hi (by rw[←e];exact ha)⟩
 have gC:∀j:Int,(H.gray1 i c).getC j=if j.toNat=i then c.col 1 else H.getC j:=fun j=>by
  rw[getC_L,getC_L];exact getL_set hlt
 have gm:∀g,g∈H.gray++[(i:Int)]→0≤g∧g<H.cells.length:=fun g hg=>by
  rcases List.mem_append.1 hg with hg|hg
  ·exact⟨(g2 g hg).1,(g2 g hg).2.1⟩
  ·simp at hg;subst hg;omega
 have hl:(H.gray1 i c).cells.length=H.cells.length:=by simp[Heap.gray1]
 have w_of:∀w,White (H.gray1 i c) w→White H w:=fun w hw'=>by
  refine⟨hw'.1,?_⟩
  have:=hw'.2
  rw[gC]at this
  split at this
  ·simp[Cell.col]at this
  ·exact this
 refine⟨?_,col_r2 h.r2 hc hu (by omega) rfl rfl rfl,col_r3 h.r3 hc rfl rfl rfl,?_,⟨fun _=>⟨gn,fun g hg=>?_,fun j d hd hdc=>?_⟩,fun hn=>absurd hm hn⟩,?_,fun _ j d hd=>?_,R8.nil hp.2.2.2⟩
 ·refine{h.r1 with cells:=by rw[hl];exact h.r1.cells,gray:=?_,hand:=by rw[hl];exact h.r1.hand}
  rw[hl];exact nodup_len _ _ gn gm
 ·exact r4_frame h.r4 hl rfl (fun j=>(hcs j).1) (fun j=>⟨fun h=>absurd h.1 hp.1,fun h=>absurd h.1 hp.1⟩) (col_orig hc rfl) (fun _ _ _ _ _ _ _=>not_mend ⟨hp.2.1,hp.2.2.1⟩ _ _)
 ·refine⟨(gm g hg).1,by rw[hl];exact(gm g hg).2,?_⟩
  rw[gC]
  by_cases e:g.toNat=i
  ·rw[if_pos e];exact⟨hu,rfl⟩
  ·rw[if_neg e]
   rcases List.mem_append.1 hg with hg|hg
   ·exact(g2 g hg).2.2
   ·simp at hg;subst hg;simp at e
 ·show(j:Int)∈H.gray++[(i:Int)]
  obtain⟨d0,hd0,⟨rfl,rfl,rfl⟩|⟨_,rfl⟩⟩:=orig hc hd
  ·simp
  ·exact List.mem_append_left _ (g3 j d hd0 hdc)
 ·have h6:=h.r6
  unfold R6 at h6⊢
  show if H.phase=0∨H.phase=4 then _ else if H.phase=2 then _ else if H.phase=5 then _ else _
  by_cases p2:H.phase=2
  ·rw[if_neg (by omega),if_pos p2]at h6⊢
   refine⟨h6.1,?_⟩
   have h7:=h6.2
   show match H.gray++[(i:Int)]with|[]=>H.sub=0|g::_=>H.sub≤((H.gray1 i c).getC g).pairs.length
   cases hg:H.gray with
   |nil=>
    rw[hg]at h7
    simp only[List.nil_append]at h7⊢
    omega
   |cons a r=>
    rw[hg]at h7
    simp only[List.cons_append]at h7⊢
    rw[(hcs a).2.1];exact h7
  ·rw[if_neg (by omega),if_neg p2,if_neg (by omega)]at h6⊢
   exact h6
 ·obtain⟨d0,hd0,x⟩:=orig hc hd
  obtain⟨a,b⟩:=h.r7 hm j d0 hd0
  refine⟨fun hr hcol=>?_,fun k p hk hsc=>?_⟩
  ·rcases x with⟨rfl,rfl,rfl⟩|⟨_,rfl⟩
   ·simp[Cell.col]at hcol
   ·exact a hr hcol
  ·have hpr:d.pairs=d0.pairs:=by rcases x with⟨_,rfl,rfl⟩|⟨_,rfl⟩<;>rfl
   rw[hpr]at hk
   have:(k:Int)<scanned H j d0:=by
    unfold scanned at hsc⊢
    have hph:(H.gray1 i c).phase=H.phase:=rfl
    have hsub:(H.gray1 i c).sub=H.sub:=rfl
    have hhd:(H.gray1 i c).gray.head?=some (j:Int)→H.phase=2→(H.gray.head?=some (j:Int))∨H.sub=0:=by
     intro h1 h2
     have h6:=h.r6
     unfold R6 at h6
     rw[if_neg (by omega),if_pos h2]at h6
     have h1:(H.gray++[(i:Int)]).head?=some (j:Int):=h1
     cases hg:H.gray with
     |nil=>rw[hg]at h6;exact .inr h6.2
     |cons a r=>rw[hg]at h1;left;simpa using h1
    rw[hph,hsub]at hsc
    rcases x with⟨rfl,rfl,rfl⟩|⟨_,rfl⟩
    ·have hcol:¬(d0.col 1).color=2:=by simp[Cell.col]
     rw[if_neg hcol]at hsc
     rw[if_neg (show ¬d0.color=2 by omega)]
     split at hsc
     ·rename_i e
      rcases hhd e.2 e.1 with h'|h'
      ·rw[if_pos ⟨e.1,h'⟩];exact hsc
      ·omega
     ·omega
    ·by_cases e2:d.color=2
     ·rw[if_pos e2]at hsc⊢;exact hsc
     ·rw[if_neg e2]at hsc⊢
      split at hsc
      ·rename_i e
       rcases hhd e.2 e.1 with h'|h'
       ·rw[if_pos ⟨e.1,h'⟩];exact hsc
       ·omega
      ·omega
   obtain⟨b1,b2⟩:=b k p hk this
   exact⟨fun h=>b1 (w_of _ h),fun h=>b2 (w_of _ h)⟩
noncomputable def Heap.shadeH(H:Heap)(i:Nat):Heap:=if Marking H∧(H.getC i).color=0 then H.gray1 i (H.getC i)else H
structure Sh (H K:Heap):Prop where
 sound:Sound H→Sound K
 room:K.room=H.room
 used:K.used=H.used
 born:K.born=H.born
 regs:K.regs=H.regs
 phase:K.phase=H.phase
 hand:K.hand=H.hand
 sub:K.sub=H.sub
 per:K.per=H.per
 start:K.start=H.start
 rounds:K.rounds=H.rounds
 forced:K.forced=H.forced
 len:K.cells.length=H.cells.length
 cell:∀j:Int,(K.getC j).state=(H.getC j).state∧(K.getC j).pairs=(H.getC j).pairs∧(K.getC j).last=(H.getC j).last∧((H.getC j).color≠0→(K.getC j).color=(H.getC j).color)
 gray:H.gray<+:K.gray
theorem Sh.refl(H:Heap):Sh H H:=⟨id,rfl,rfl,rfl,rfl,rfl,rfl,rfl,rfl,rfl,rfl,rfl,rfl,fun _=>⟨rfl,rfl,rfl,fun _=>rfl⟩,List.prefix_refl _⟩
theorem Sh.trans{H K L:Heap}(h:Sh H K)(k:Sh K L):Sh H L:=
 ⟨fun s=>k.sound (h.sound s),k.room.trans h.room,k.used.trans h.used,k.born.trans h.born,k.regs.trans h.regs,k.phase.trans h.phase,k.hand.trans h.hand,k.sub.trans h.sub,k.per.trans h.per,k.start.trans h.start,k.rounds.trans h.rounds,k.forced.trans h.forced,k.len.trans h.len,
  fun j=>⟨(k.cell j).1.trans (h.cell j).1,(k.cell j).2.1.trans (h.cell j).2.1,(k.cell j).2.2.1.trans (h.cell j).2.2.1,fun hc=>by
   have:=(h.cell j).2.2.2 hc
   rw[(k.cell j).2.2.2 (by rw[this];exact hc),this]⟩,h.gray.trans k.gray⟩
theorem shadeH_ok{H:Heap}{i:Nat}(hi:i<H.cells.length)(hu:(H.getC i).state=1):Sh H (H.shadeH i)∧(Marking H→((H.shadeH i).getC i).color≠0):=by
 unfold Heap.shadeH
 have hc:=getL_some (cs:=H.cells) (j:=i) (by omega) (by omega)
 rw[show((i:Int)).toNat=i by omega,←getC_L]at hc
 split
 ·rename_i hm
  refine⟨⟨fun h=>gray1_sound h hm.1 hc hu hm.2,rfl,rfl,rfl,rfl,rfl,rfl,rfl,rfl,rfl,rfl,rfl,by simp[Heap.gray1],fun j=>?_,List.prefix_append _ _⟩,fun _=>?_⟩
  ·have e:(H.gray1 i (H.getC i)).getC j=if j.toNat=i then(H.getC i).col 1 else H.getC j:=by rw[getC_L,getC_L];exact getL_set hi
   rw[e]
   split
   ·rename_i e
    have:H.getC j=H.getC i:=by rw[getC_L,getL_at hc e]
    rw[this]
    exact⟨rfl,rfl,rfl,fun h=>absurd hm.2 h⟩
   ·exact⟨rfl,rfl,rfl,fun _=>rfl⟩
  ·have e:(H.gray1 i (H.getC i)).getC i=if((i:Int)).toNat=i then(H.getC i).col 1 else H.getC i:=by rw[getC_L,getC_L];exact getL_set hi
   rw[e,if_pos (by omega)];simp[Cell.col]
 ·rename_i hm
  exact⟨Sh.refl H,fun h e=>hm ⟨h,e⟩⟩
theorem Sh.white{H K:Heap}(h:Sh H K){w:Word}(hw:¬White H w):¬White K w:=fun h'=>hw ⟨h'.1,by
 have:=h'.2
 by_cases e:(H.getC w.at_).color=0
 ·exact e
 ·rw[(h.cell _).2.2.2 e]at this;exact absurd this e⟩
noncomputable def Heap.shadeW(H:Heap)(w:Word):Heap:=if w.kind=2 then H.shadeH w.at_.toNat else H
theorem shadeW_ok{H:Heap}{w:Word}(hf:Formed H w)(hu:w.kind=2→(H.getC w.at_).state=1):Sh H (H.shadeW w)∧(Marking H→¬White (H.shadeW w) w):=by
 unfold Heap.shadeW
 split
 ·rename_i hk
  have ha:=hf.at hk
  have e:((w.at_.toNat:Nat):Int)=w.at_:=by omega
  obtain⟨a,b⟩:=shadeH_ok (H:=H) (i:=w.at_.toNat) (by omega) (by rw[e];exact hu hk)
  refine⟨a,fun hm hw=>b hm ?_⟩
  rw[e];exact hw.2
 ·rename_i hk
  exact⟨Sh.refl H,fun _ hw=>hk hw.1⟩
end Go.Proofs.YtcjmodomfilagaaGreat.E
