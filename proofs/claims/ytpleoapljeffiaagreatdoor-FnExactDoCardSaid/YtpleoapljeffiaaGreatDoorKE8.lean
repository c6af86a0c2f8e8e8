/- A part of the proof. Conditions: none. -/
import Derived.Test.YtpleoapljeffiaaGreatDoorKE7
set_option maxRecDepth 100000
set_option linter.unusedVariables false
namespace Go.Proofs.YtpleoapljeffiaaGreatDoor.E
open Go
noncomputable def e116:Env:=⟨Tryz.prog,[],97,[]⟩
abbrev zf(a0:Nat)(a1:Nat)(a2:Nat):I:=⟨some a0,some (a1,false),.not (.tmp a2)⟩
abbrev zi(a0:Nat)(a1:Nat)(a2:Int):I:=⟨some a0,none,.bin .sub (.tmp a1) (.const (.int .i64 a2))⟩
abbrev zy(a0:Nat)(a1:Nat)(a2:Nat):I:=⟨some a0,none,.bin .eql (.tmp a1) (.tmp a2)⟩
abbrev zz(a0:Nat)(a1:Nat)(a2:Nat)(a3:Int):I:=⟨some a0,some (a1,false),.bin .neq (.tmp a2) (.const (.int .i64 a3))⟩
abbrev q4(a0:Nat)(a1:Nat)(a2:Nat):I:=⟨some a0,none,.bin .add (.tmp a1) (.tmp a2)⟩
abbrev q9(a0:Nat)(a1:Nat)(a2:Nat)(a3:Nat):I:=⟨some a0,some (a1,false),.load false a2 (.tmp a3)⟩
abbrev qB(a0:Nat)(a1:Nat)(a2:Nat)(a3:Nat)(a4:Nat):I:=⟨some a0,some (a1,false),.iaddr a2 (.tmp a3) (.tmp a4)⟩
abbrev qC(a0:Nat)(a1:Nat)(a2:Nat)(a3:Int):I:=⟨some a0,some (a1,true),.bin .neq (.tmp a2) (.const (.int .i64 a3))⟩
abbrev qG(a0:Nat)(a1:Nat)(a2:Nat)(a3:Int)(a4:Int):I:=⟨some a0,none,.call a1 [.tmp a2,.const (.int .i64 a3),.const (.int .i64 a4)]⟩
abbrev qH(a0:Nat)(a1:Nat)(a2:Nat):I:=⟨some a0,none,.qcall a1 [.tmp a2]⟩
abbrev qI(a0:Nat)(a1:Nat)(a2:Nat)(a3:Nat)(a4:Nat):I:=⟨some a0,none,.call a1 [.tmp a2,.tmp a3,.tmp a4]⟩
abbrev qJ(a0:Nat)(a1:Nat)(a2:Nat):I:=⟨some a0,none,.bin .leq (.tmp a1) (.tmp a2)⟩
abbrev qL(a0:Nat)(a1:Nat)(a2:Nat)(a3:Nat)(a4:Int)(a5:Int):I:=⟨some a0,some (a1,true),.call a2 [.tmp a3,.const (.int .i64 a4),.const (.int .i64 a5)]⟩
abbrev qM(a0:Nat)(a1:Nat)(a2:Nat):I:=⟨some a0,some (a1,false),.lenS (.tmp a2)⟩
abbrev qN(a0:Nat)(a1:Nat)(a2:Nat)(a3:Nat)(a4:Nat):I:=⟨some a0,some (a1,false),.call a2 [.tmp a3,.tmp a4]⟩
abbrev qO(a0:Nat)(a1:Nat)(a2:Nat):I:=⟨some a0,none,.mkfn a1 [.tmp a2] []⟩
abbrev qU(a0:Nat)(a1:Nat)(a2:Nat)(a3:Int):I:=⟨some a0,some (a1,true),.bin .gtr (.tmp a2) (.const (.int .i64 a3))⟩
abbrev qY(a0:Nat)(a1:Nat)(a2:Nat)(a3:Nat)(a4:Int)(a5:Int):I:=⟨some a0,some (a1,false),.qcall a2 [.tmp a3,.const (.int .i64 a4),.const (.int .i64 a5)]⟩
abbrev qZ(a0:Nat)(a1:Nat)(a2:Nat)(a3:Nat):I:=⟨some a0,some (a1,false),.bin .lss (.tmp a2) (.tmp a3)⟩
abbrev qa(a0:Nat)(a1:Nat)(a2:Nat)(a3:Int):I:=⟨some a0,none,.iaddr a1 (.tmp a2) (.const (.int .i64 a3))⟩
abbrev qb(a0:Nat)(a1:Nat)(a2:Nat)(a3:Nat):I:=⟨some a0,some (a1,true),.bin .eql (.tmp a2) (.tmp a3)⟩
abbrev qc(a0:Nat)(a1:Nat)(a2:Nat)(a3:Nat):I:=⟨some a0,none,.slc a1 (.tmp a2) none (some (.tmp a3))⟩
abbrev qd(a0:Nat)(a1:Nat):I:=⟨some a0,none,.box false (.tmp a1)⟩
abbrev qk(a0:Nat)(a1:Nat)(a2:Nat)(a3:Nat):I:=⟨some a0,some (a1,true),.load false a2 (.tmp a3)⟩
abbrev qp(a0:Nat)(a1:Nat)(a2:Nat)(a3:Nat)(a4:Int)(a5:Nat):I:=⟨some a0,some (a1,true),.call a2 [.tmp a3,.const (.int .i64 a4),.tmp a5]⟩
abbrev qq(a0:Nat):I:=⟨some a0,none,.mkmap⟩
abbrev qr(a0:Nat)(a1:Nat)(a2:Nat)(a3:Int)(a4:Int):I:=⟨some a0,none,.qcall a1 [.tmp a2,.const (.int .i64 a3),.const (.int .i64 a4)]⟩
abbrev qt(a0:Nat)(a1:Nat)(a2:Nat)(a3:Int):I:=⟨some a0,some (a1,false),.bin .gtr (.tmp a2) (.const (.int .i64 a3))⟩
abbrev qu(a0:Nat)(a1:Nat)(a2:Nat)(a3:Int)(a4:Nat):I:=⟨some a0,none,.call a1 [.tmp a2,.const (.int .i64 a3),.tmp a4]⟩
abbrev j6(a0:Nat)(a1:Nat)(a2:Nat)(a3:Int):I:=⟨some a0,some (a1,false),.bin .lss (.tmp a2) (.const (.int .i64 a3))⟩
abbrev j7(a0:Nat)(a1:Nat)(a2:Nat)(a3:Nat)(a4:Int)(a5:Nat):I:=⟨some a0,some (a1,false),.qcall a2 [.tmp a3,.const (.int .i64 a4),.tmp a5]⟩
abbrev j8(a0:Nat)(a1:Nat)(a2:Nat)(a3:Nat):I:=⟨some a0,some (a1,false),.look true (.bool false) false (.tmp a2) (.tmp a3)⟩
abbrev j9(a0:Nat)(a1:Nat):I:=⟨none,none,.mupd (.tmp a0) (.tmp a1) (.const (.bool true))⟩
noncomputable def c116:C:=
 .seq (.reg [zD 2]) (.seq (.reg [z3 4 0,z6 5 4,z4 6 4 5,z5 7 1 6,zE 8 7,z3 3 8]) (.seq (.reg [z3 9 0,z6 10 9,z4 11 0 10,z5 12 1 11,qG 13 66 12 1 4000,z3 14 13,zJ 15 14 0,zU 16 14 15,zI 17 14 3 16,zF 18 14 1 17,q5 19 14 18,zY 20 14 19 16,zK 21 14 20,z3 22 21,zJ 23 22 3,zJ 24 22 0,zU 25 22 24,zI 26 22 0 25,zF 27 22 1 26,⟨some 28,some (22,true),.bin .mul (.const (.int .i64 2)) (.tmp 27)⟩,qi 29 22
 23 28,zK 30 22 29,z3 31 30,zJ 32 31 0,zU 33 31 32,zI 34 31 8 33,zF 35 31 1 34,q5 36 31 35,zJ 37 31 3,qi 38 31 36 37,zK 39 31 38,z3 40 39,zJ 41 40 0,zU 42 40 41,zI 43 40 2 42,zF 44 40 1 43,qL 45 40 66 44 0 1000000000,zK 46 40 45,z3 47 46,zJ 48 47 0,zU 49 47 48,zI 50 47 11 49,zF 51 47 1 50,qL 52 47 66 51 0 1000000000,zK 53 47 52,z3 54 53,zJ 55 54 0,zU 56 54 55,zI 57 54 12 56,zF 58 54 1 57,qL 59 54
 66 58 0 1000000000,zK 60 54 59,z3 61 60,zJ 62 61 0,zU 63 61 62,zI 64 61 9 63,zF 65 61 1 64,qL 66 61 66 65 0 64,zK 67 61 66,z3 68 67,zJ 69 68 0,zU 70 68 69,zI 71 68 10 70,zF 72 68 1 71,qL 73 68 66 72 0 4000,zK 74 68 73,z3 75 74,zJ 76 75 0,zU 77 75 76,zI 78 75 5 77,zF 79 75 1 78,qL 80 75 66 79 0 6,zK 81 75 80,z3 82 81,zJ 83 82 0,zU 84 82 83,zI 85 82 6 84,zF 86 82 1 85,zJ 87 82 3,qp 88 82 66 86 0 87,
 zK 89 82 88,z3 90 89,zJ 91 90 0,zU 92 90 91,zI 93 90 7 92,zF 94 90 1 93,qL 95 90 66 94 0 200,zK 96 90 95,z3 2 96]) .ret))
theorem t116:Tryz.f116.body.bind (trC e116)=some c116:=by kernel_rfl
theorem r116:Tryz.f116.results.toList.mapM (trR Tryz.prog)=some [.tmp 2]:=by kernel_rfl
theorem fn116{args:List Value}{M:Mem}{post:Value→Mem→Prop}(hl:args.length≤97)(h:VC e116 c116 (fnQ [.tmp 2] post) (initS args 97) M):Fn Tryz.prog 116 args M post:=
 Fn.of' (E:=e116) Tryz.func116 t116 rfl r116 mixed hl h
noncomputable def e117:Env:=⟨Tryz.prog,[6],150,[(11,36),(20,49)]⟩
noncomputable def c117:C:=
 .seq (.reg [zD 2]) (.seq (.reg [qq 8,qq 9,z3 3 8,z3 4 9]) (.seq (.seq (.reg [z3 10 0,z6 11 10,z4 12 4 11,z5 13 1 12,zE 14 13,zC 15 0]) (.block 0 (.loop (.seq (.reg [zN 16 15 14]) (.seq (.cond (.tmp 16) .skip (.exit 0)) (.seq (.block 1 (.seq (.reg [z3 17 15,z8 18 8 13 15,z9 19 8 18,zX 6 0 0 0 0 0 0 0 0 0,z3 5 17,z7 8 6 19]) (.seq (.reg [z4 20 0 6,z5 21 1 20]) (.block 2 (.seq (.reg [zA 23 21
 0,z3 22 23]) (.cond (.tmp 22) (.seq (.reg [z9 24 8 6,zM 25 143 24,zV 26 25,z3 27 26,zO 28 27 6 6,zP 29 27 1 28,zz 30 27 29 0,zR 31 27 30]) (.cond (.tmp 31) (.seq (.reg [zD 2]) .ret) .skip)) (.seq (.reg [zA 33 21 2,z3 32 33]) (.cond (.tmp 32) (.seq (.seq (.dreg 36 [z9 34 8 6,qH 35 143 34,zV 36 35,z3 37 36,zQ 38 37 0,za 39 37 38,zO 40 37 5 39,zP 41 37 1 40,j6 42 37 41 4,zR 43 37 42,z3 44 43,zO
 45 44 6 6,zP 46 44 1 45,zQ 47 44 5,⟨some 48,some (44,false),.bin .sub (.tmp 47) (.const (.int .i64 1))⟩,j7 49 44 66 46 0 48,zf 50 44 49,zR 51 44 50,z3 52 51,zQ 53 52 0,za 54 52 53,zO 55 52 4 54,zP 56 52 1 55,zO 57 52 6 6,zP 58 52 1 57,qB 59 52 8 56 58,zO 60 52 0 59,zP 61 52 1 60,zz 62 52 61 1,zR 63 52 62,z3 64 63,zQ 65 64 4,zO 66 64 6 6,zP 67 64 1 66,j8 68 64 65 67,zR 69 64 68]) (.cond (.tmp 69)
 (.seq (.reg [zD 2]) .ret) .skip)) (.seq (.reg [z3 70 4,z4 71 6 6,z5 72 1 71,j9 70 72]) (.seq (.reg [zC 7 0]) (.block 3 (.loop (.seq (.seq (.reg [z3 73 7,z4 74 6 6,z5 75 1 74,zN 76 73 75,z3 77 76,zJ 78 77 0,zU 79 77 78,zI 80 77 5 79,zF 81 77 1 80,zY 82 77 81 4,zK 83 77 82]) (.cond (.tmp 83) .skip (.exit 3))) (.seq (.block 4 (.seq (.reg [z3 86 0,z6 87 86,z4 88 4 87,z5 89 1 88,z3 90 7,z8 91 8
 89 90,z4 92 0 91,z5 93 1 92,zA 94 93 0]) (.cond (.tmp 94) (.seq (.reg [zD 2]) .ret) .skip))) (.reg [z3 84 7,zG 85 84 1,z3 7 85])))))))) (.seq (.reg [zA 96 21 1,z3 95 96]) (.cond (.tmp 95) (.seq (.seq (.dreg 49 [z4 97 1 6,z5 98 1 97,qr 99 66 98 0 255,zV 100 99,z3 101 100,zO 102 101 2 6,zP 103 101 1 102,qY 104 101 66 103 0 3,zf 105 101 104,zR 106 101 105,z3 107 106,zO 108 107 3 6,zP 109 107 1
 108,qY 110 107 66 109 0 3,zf 111 107 110,zR 112 107 111,z3 113 112,zO 114 113 4 6,zP 115 113 1 114,zQ 116 113 0,za 117 113 116,zO 118 113 2 117,zP 119 113 1 118,j7 120 113 66 115 1 119,zf 121 113 120,zR 122 113 121,z3 123 122,zO 124 123 5 6,zP 125 123 1 124,qY 126 123 66 125 0 2,zf 127 123 126,zR 128 123 127,z3 129 128,zO 130 129 6 6,zP 131 129 1 130,zz 132 129 131 0,zR 133 129 132,z3 134 133,zO
 135 134 7 6,zP 136 134 1 135,qM 137 134 136,qt 138 134 137 200,zR 139 134 138,z3 140 139,zQ 141 140 3,zO 142 140 4 6,zP 143 140 1 142,j8 144 140 141 143,zR 145 140 144]) (.cond (.tmp 145) (.seq (.reg [zD 2]) .ret) .skip)) (.reg [z3 146 3,z4 147 4 6,z5 148 1 147,j9 146 148])) (.seq (.reg [zD 2]) .ret))))))))))) (.reg [zG 149 15 1,z3 15 149]))))))) (.seq (.reg [zZ 2]) .ret)))
theorem t117:Tryz.f117.body.bind (trC e117)=some c117:=by kernel_rfl
theorem r117:Tryz.f117.results.toList.mapM (trR Tryz.prog)=some [.tmp 2]:=by kernel_rfl
theorem fn117{args:List Value}{M:Mem}{post:Value→Mem→Prop}(hl:args.length≤150)(h:VC e117 c117 (fnQ [.tmp 2] post) (initS args 150) M):Fn Tryz.prog 117 args M post:=
 Fn.of' (E:=e117) Tryz.func117 t117 rfl r117 mixed hl h
noncomputable def e118:Env:=⟨Tryz.prog,[5],34,[]⟩
noncomputable def c118:C:=
 .seq (.reg [zD 2]) (.seq (.reg [zC 3 0]) (.seq (.seq (.reg [z3 6 0,z6 7 6,z4 8 4 7,z5 9 1 8,zE 10 9,zC 11 0]) (.block 0 (.loop (.seq (.reg [zN 12 11 10]) (.seq (.cond (.tmp 12) .skip (.exit 0)) (.seq (.block 1 (.seq (.reg [z8 13 8 9 11,z9 14 8 13,zX 5 0 0 0 0 0 0 0 0 0,z7 8 5 14]) (.reg [z3 15 3,z9 16 8 5,zM 17 144 16,q4 18 15 17,z3 3 18]))) (.reg [zG 19 11 1,z3 11 19]))))))) (.seq (.reg [
 z3 20 3,z3 21 0,z6 22 21,z4 23 1 22,z5 24 1 23,zy 25 20 24,z3 26 25,zJ 27 26 3,zJ 28 26 0,zU 29 26 28,zI 30 26 0 29,zF 31 26 1 30,qi 32 26 27 31,zK 33 26 32,z3 2 33]) .ret)))
theorem t118:Tryz.f118.body.bind (trC e118)=some c118:=by kernel_rfl
theorem r118:Tryz.f118.results.toList.mapM (trR Tryz.prog)=some [.tmp 2]:=by kernel_rfl
theorem fn118{args:List Value}{M:Mem}{post:Value→Mem→Prop}(hl:args.length≤34)(h:VC e118 c118 (fnQ [.tmp 2] post) (initS args 34) M):Fn Tryz.prog 118 args M post:=
 Fn.of' (E:=e118) Tryz.func118 t118 rfl r118 mixed hl h
noncomputable def e119:Env:=⟨Tryz.prog,[4,6,8],91,[]⟩
noncomputable def c119:C:=
 .seq (.reg [zD 2]) (.seq (.seq (.reg [z3 10 0,z6 11 10,z4 12 3 11,z5 13 1 12,zE 14 13,zC 15 0]) (.block 0 (.loop (.seq (.reg [zN 16 15 14]) (.seq (.cond (.tmp 16) .skip (.exit 0)) (.seq (.block 1 (.seq (.reg [z8 17 3 13 15,z9 18 3 17,zk 4 0 0 0,z7 3 4 18]) (.seq (.reg [z3 19 0,z9 20 3 4,zL 21 145 19 20,zV 22 21,z3 23 22,zQ 24 23 0,q9 25 23 3 4,⟨some 26,some (23,false),.call 146 [.tmp 24,.tmp
 25,.const (.bool false)]⟩,zf 27 23 26,zR 28 23 27]) (.cond (.tmp 28) (.seq (.reg [zD 2]) .ret) .skip)))) (.reg [zG 29 15 1,z3 15 29]))))))) (.seq (.seq (.reg [z3 30 0,z6 31 30,z4 32 4 31,z5 33 1 32,zE 34 33,zC 35 0]) (.block 2 (.loop (.seq (.reg [zN 36 35 34]) (.seq (.cond (.tmp 36) .skip (.exit 2)) (.seq (.block 3 (.seq (.reg [z3 37 35,z8 38 8 33 35,z9 39 8 38,zX 6 0 0 0 0 0 0 0 0 0,z3 5 37,
 z7 8 6 39]) (.seq (.seq (.reg [z3 40 0,z3 41 5,zL 42 147 40 41,z3 43 42,qk 44 43 8 6,⟨some 45,some (43,true),.call 148 [.tmp 44]⟩,zK 46 43 45]) (.cond (.tmp 46) (.seq (.reg [zD 2]) .ret) .skip)) (.seq (.reg [z4 47 7 6,z5 48 1 47,zE 49 48,zC 50 0]) (.block 4 (.loop (.seq (.reg [zN 51 50 49]) (.seq (.cond (.tmp 51) .skip (.exit 4)) (.seq (.block 5 (.seq (.reg [z3 52 50,z8 53 6 48 50,z9 54 6 53,
 zp 8 0 0 0 0 0 0,z3 7 52,z7 6 8 54]) (.seq (.seq (.reg [z3 55 0,z4 56 0 8,z9 57 3 56,zL 58 145 55 57,zV 59 58,z3 60 59,zQ 61 60 0,zO 62 60 3 8,q9 63 60 3 62,qN 64 60 145 61 63,zf 65 60 64,zR 66 60 65]) (.cond (.tmp 66) (.seq (.reg [zD 2]) .ret) .skip)) (.seq (.seq (.reg [z3 67 0,z3 68 5,zL 69 147 67 68]) (.cond (.tmp 69) (.exit 5) .skip)) (.seq (.reg [z3 70 0,z3 71 5,z3 72 7,qI 73 149 70 71
 72,zV 74 73,z3 9 74]) (.seq (.reg [z3 75 0,z4 76 0 8,z9 77 3 76,z3 78 9,qI 79 146 75 77 78,zV 80 79,z3 81 80,zQ 82 81 0,zO 83 81 3 8,q9 84 81 3 83,zQ 85 81 9,⟨some 86,some (81,false),.call 146 [.tmp 82,.tmp 84,.tmp 85]⟩,zf 87 81 86,zR 88 81 87]) (.cond (.tmp 88) (.seq (.reg [zD 2]) .ret) .skip))))))) (.reg [zG 89 50 1,z3 50 89])))))))))) (.reg [zG 90 35 1,z3 35 90]))))))) (.seq (.reg [zZ 2])
 .ret)))
theorem t119:Tryz.f119.body.bind (trC e119)=some c119:=by kernel_rfl
theorem r119:Tryz.f119.results.toList.mapM (trR Tryz.prog)=some [.tmp 2]:=by kernel_rfl
theorem fn119{args:List Value}{M:Mem}{post:Value→Mem→Prop}(hl:args.length≤91)(h:VC e119 c119 (fnQ [.tmp 2] post) (initS args 91) M):Fn Tryz.prog 119 args M post:=
 Fn.of' (E:=e119) Tryz.func119 t119 rfl r119 mixed hl h
noncomputable def e120:Env:=⟨Tryz.prog,[7,9],121,[]⟩
noncomputable def c120:C:=
 .seq (.reg [zD 2]) (.seq (.seq (.reg [z3 10 0,zM 11 150 10]) (.cond (.tmp 11) (.seq (.reg [qq 12,z3 3 12]) (.seq (.seq (.reg [z3 13 0,z6 14 13,z4 15 8 14,z5 16 1 15,zE 17 16,zC 18 0]) (.block 0 (.loop (.seq (.reg [zN 19 18 17]) (.seq (.cond (.tmp 19) .skip (.exit 0)) (.seq (.block 1 (.seq (.reg [z8 20 1 16 18,z5 21 1 20,z3 5 21]) (.seq (.seq (.reg [z3 22 5,z3 23 0,z6 24 23,z4 25 4 24,z5 26
 1 25,zE 27 26,zi 28 27 1,qu 29 66 22 0 28,zV 30 29,z3 31 30,zQ 32 31 3,zQ 33 31 5,j8 34 31 32 33,zR 35 31 34,z3 36 35,zQ 37 36 0,za 38 36 37,zO 39 36 4 38,zP 40 36 1 39,zQ 41 36 5,qB 42 36 8 40 41,zO 43 36 0 42,zP 44 36 1 43,zz 45 36 44 1,zR 46 36 45,z3 47 46,zQ 48 47 0,za 49 47 48,zO 50 47 4 49,zP 51 47 1 50,zQ 52 47 5,qB 53 47 8 51 52,zO 54 47 5 53,zP 55 47 1 54,zz 56 47 55 1,zR 57 47 56])
 (.cond (.tmp 57) (.seq (.reg [zD 2]) .ret) .skip)) (.reg [z3 58 3,z3 59 5,j9 58 59])))) (.reg [zG 60 18 1,z3 18 60]))))))) (.seq (.seq (.reg [z3 61 0,z6 62 61,z4 63 4 62,z5 64 1 63,zE 65 64,zC 66 0]) (.block 2 (.loop (.seq (.reg [zN 67 66 65]) (.seq (.cond (.tmp 67) .skip (.exit 2)) (.seq (.block 3 (.seq (.reg [z3 68 66,z8 69 8 64 66,z9 70 8 69,zX 7 0 0 0 0 0 0 0 0 0,z3 6 68,z7 8 7 70])
 (.seq (.reg [z4 71 5 7,z5 72 1 71,zA 73 72 1,z3 74 73,zJ 75 74 3,zJ 76 74 6,⟨some 77,some (74,true),.look true (.bool false) false (.tmp 75) (.tmp 76)⟩,qA 78 74 77,zK 79 74 78]) (.cond (.tmp 79) (.seq (.reg [zD 2]) .ret) .skip)))) (.reg [zG 80 66 1,z3 66 80]))))))) (.seq (.reg [zZ 2]) .ret)))) .skip)) (.seq (.seq (.reg [z3 81 0,z6 82 81,z4 83 4 82,z5 84 1 83,zE 85 84,zC 86 0]) (.block 4
 (.loop (.seq (.reg [zN 87 86 85]) (.seq (.cond (.tmp 87) .skip (.exit 4)) (.seq (.block 5 (.seq (.reg [z3 88 86,z8 89 8 84 86,z9 90 8 89,zX 9 0 0 0 0 0 0 0 0 0,z3 8 88,z7 8 9 90]) (.seq (.reg [z4 91 5 9,z5 92 1 91,zA 93 92 1,z3 94 93,zO 95 94 5 9,zP 96 94 1 95,zt 97 94 96 2,zQ 98 94 97,zJ 99 98 0,zU 100 98 99,zI 101 98 5 100,zF 102 98 1 101,qC 103 98 102 3,zJ 104 98 103,zQ 105 104 8,zQ 106 104
 0,za 107 104 106,zO 108 104 6 107,zP 109 104 1 108,qZ 110 104 105 109,qD 111 98 104 110,q8 112 94 98 111,zR 113 94 112]) (.cond (.tmp 113) (.seq (.reg [zD 2]) .ret) .skip)))) (.reg [zG 114 86 1,z3 86 114]))))))) (.seq (.reg [z3 115 0,z6 116 115,z4 117 8 116,z5 118 1 117,zE 119 118,zA 120 119 0,z3 2 120]) .ret)))
theorem t120:Tryz.f120.body.bind (trC e120)=some c120:=by kernel_rfl
theorem r120:Tryz.f120.results.toList.mapM (trR Tryz.prog)=some [.tmp 2]:=by kernel_rfl
theorem fn120{args:List Value}{M:Mem}{post:Value→Mem→Prop}(hl:args.length≤121)(h:VC e120 c120 (fnQ [.tmp 2] post) (initS args 121) M):Fn Tryz.prog 120 args M post:=
 Fn.of' (E:=e120) Tryz.func120 t120 rfl r120 mixed hl h
noncomputable def e121:Env:=⟨Tryz.prog,[],107,[(10,19),(12,24),(13,17)]⟩
noncomputable def c121:C:=
 .seq (.reg [zD 2]) (.seq (.seq (.reg [z3 3 0,z6 4 3,z4 5 5 4,z5 6 1 5]) (.block 0 (.seq (.seq (.reg [zA 8 6 0,z3 7 8]) (.cond (.tmp 7) .skip (.reg [zA 9 6 4,z3 7 9]))) (.cond (.tmp 7) (.seq (.reg [z3 10 0,z6 11 10,z4 12 6 11,z5 13 1 12,zA 14 13 0,z3 15 14,zJ 16 15 0,zU 17 15 16,zI 18 15 7 17,zF 19 15 1 18,zY 20 15 19 0,zK 21 15 20,z3 2 21]) .ret) (.seq (.reg [zA 23 6 2,z3 22 23]) (.cond
 (.tmp 22) (.seq (.seq (.reg [z3 24 0,z6 25 24,z4 26 6 25,z5 27 1 26,zo 28 27 0]) (.cond (.tmp 28) (.seq (.reg [zD 2]) .ret) .skip)) (.seq (.seq (.reg [z3 29 0,z6 30 29,z4 31 8 30,z5 32 1 31,zE 33 32,zA 34 33 0]) (.cond (.tmp 34) (.seq (.reg [z3 35 0,z6 36 35,z4 37 7 36,z5 38 1 37,zA 39 38 0,z3 2 39]) .ret) .skip)) (.seq (.dreg 19 [z3 40 0,z6 41 40,z4 42 7 41,z5 43 1 42,z3 44 0,z6 45 44,z4 46
 4 45,z5 47 1 46,z3 48 0,z6 49 48,z4 50 8 49,z5 51 1 50,qa 52 1 51 0,z5 53 1 52,z8 54 8 47 53,z4 55 7 54,z5 56 1 55,zE 57 56,qJ 58 43 57,z3 2 58]) .ret))) (.seq (.reg [zA 60 6 5,z3 59 60]) (.cond (.tmp 59) (.seq (.dreg 24 [z3 61 0,z6 62 61,z4 63 6 62,z5 64 1 63,z3 65 0,z6 66 65,z4 67 4 66,z5 68 1 67,zE 69 68,zN 70 64 69,z3 71 70,zJ 72 71 0,zU 73 71 72,zI 74 71 4 73,zF 75 71 1 74,zJ 76 71 0,zU 77
 71 76,zI 78 71 6 77,zF 79 71 1 78,zj 80 71 8 75 79,zI 81 71 0 80,zF 82 71 1 81,zY 83 71 82 1,zK 84 71 83]) (.cond (.tmp 84) (.seq (.dreg 17 [z3 85 0,z6 86 85,z4 87 7 86,z5 88 1 87,z3 89 0,z6 90 89,z4 91 4 90,z5 92 1 91,z3 93 0,z6 94 93,z4 95 6 94,z5 96 1 95,z8 97 8 92 96,z4 98 7 97,z5 99 1 98,zE 100 99,qJ 101 88 100,z3 2 101]) .ret) .skip)) .skip)))))))) (.seq (.reg [z3 102 0,z6 103 102,z4 104
 7 103,z5 105 1 104,zA 106 105 0,z3 2 106]) .ret))
theorem t121:Tryz.f121.body.bind (trC e121)=some c121:=by kernel_rfl
theorem r121:Tryz.f121.results.toList.mapM (trR Tryz.prog)=some [.tmp 2]:=by kernel_rfl
theorem fn121{args:List Value}{M:Mem}{post:Value→Mem→Prop}(hl:args.length≤107)(h:VC e121 c121 (fnQ [.tmp 2] post) (initS args 107) M):Fn Tryz.prog 121 args M post:=
 Fn.of' (E:=e121) Tryz.func121 t121 rfl r121 mixed hl h
noncomputable def e122:Env:=⟨Tryz.prog,[4,7],97,[]⟩
noncomputable def c122:C:=
 .seq (.reg [zD 2]) (.seq (.seq (.reg [z3 8 0,zM 9 150 8,zV 10 9]) (.cond (.tmp 10) (.seq (.reg [zZ 2]) .ret) .skip)) (.seq (.seq (.reg [z3 11 0,z6 12 11,z4 13 4 12,z5 14 1 13,zE 15 14,zC 16 0]) (.block 0 (.loop (.seq (.reg [zN 17 16 15]) (.seq (.cond (.tmp 17) .skip (.exit 0)) (.seq (.block 1 (.seq (.reg [z3 18 16,z8 19 8 14 16,z9 20 8 19,zX 4 0 0 0 0 0 0 0 0 0,z3 3 18,z7 8 4 20]) (.seq
 (.seq (.reg [z9 21 8 4,zM 22 148 21,z3 23 22,zI 24 23 5 4,zF 25 23 1 24,zY 26 23 25 0,zK 27 23 26,z3 28 27,zJ 29 28 0,zU 30 28 29,zI 31 28 5 30,zF 32 28 1 31,zY 33 28 32 2,zJ 34 28 33,zQ 35 34 3,zQ 36 34 0,za 37 34 36,zO 38 34 6 37,zP 39 34 1 38,qZ 40 34 35 39,qD 41 28 34 40,zK 42 28 41]) (.cond (.tmp 42) (.seq (.reg [zD 2]) .ret) .skip)) (.seq (.reg [zC 5 0]) (.seq (.seq (.reg [z4 43 5 4,z5
 44 1 43,zA 45 44 2]) (.cond (.tmp 45) (.reg [z4 46 7 4,z5 47 1 46,zE 48 47,z3 5 48]) (.seq (.reg [z3 49 0,z6 50 49,z4 51 5 50,z5 52 1 51,zA 53 52 2,z3 54 53,zJ 55 54 0,zU 56 54 55,zI 57 54 8 56,zF 58 54 1 57,q5 59 54 58,qU 60 54 59 0,zK 61 54 60,z3 62 61,zJ 63 62 0,zU 64 62 63,zI 65 62 8 64,zF 66 62 1 65,⟨some 67,some (62,true),.iaddr 1 (.tmp 66) (.const (.int .i64 0))⟩,zF 68 62 1 67,zJ 69 62 3,
 qb 70 62 68 69,zK 71 62 70]) (.cond (.tmp 71) (.reg [z3 72 0,z6 73 72,z4 74 7 73,z5 75 1 74,z3 5 75]) .skip)))) (.seq (.reg [z4 76 7 4,z5 77 1 76,z3 78 5,qc 79 6 77 78,zE 80 79,zC 81 0]) (.block 2 (.loop (.seq (.reg [zN 82 81 80]) (.seq (.cond (.tmp 82) .skip (.exit 2)) (.seq (.block 3 (.seq (.reg [z8 83 6 79 81,z9 84 6 83,zp 7 0 0 0 0 0 0,z7 6 7 84]) (.seq (.reg [z3 85 0,z4 86 0 7,z9 87 3
 86,zL 88 151 85 87,z3 89 88,zQ 90 89 0,zO 91 89 3 7,q9 92 89 3 91,qN 93 89 151 90 92,zR 94 89 93]) (.cond (.tmp 94) (.seq (.reg [zD 2]) .ret) .skip)))) (.reg [zG 95 81 1,z3 81 95])))))))))))) (.reg [zG 96 16 1,z3 16 96]))))))) (.seq (.reg [zZ 2]) .ret)))
theorem t122:Tryz.f122.body.bind (trC e122)=some c122:=by kernel_rfl
theorem r122:Tryz.f122.results.toList.mapM (trR Tryz.prog)=some [.tmp 2]:=by kernel_rfl
theorem fn122{args:List Value}{M:Mem}{post:Value→Mem→Prop}(hl:args.length≤97)(h:VC e122 c122 (fnQ [.tmp 2] post) (initS args 97) M):Fn Tryz.prog 122 args M post:=
 Fn.of' (E:=e122) Tryz.func122 t122 rfl r122 mixed hl h
noncomputable def e123:Env:=⟨Tryz.prog,[],33,[]⟩
noncomputable def c123:C:=
 .seq (.reg [zD 2]) (.seq (.seq (.reg [z3 4 0,z6 5 4,z4 6 6 5,z5 7 1 6,z3 3 7]) (.block 0 (.loop (.seq (.seq (.reg [z3 8 0,z6 9 8,z4 10 5 9,z5 11 1 10,zA 12 11 6,z3 13 12,zJ 14 13 3,zJ 15 13 0,zU 16 13 15,zI 17 13 4 16,zF 18 13 1 17,q5 19 13 18,qS 20 13 14 19,zK 21 13 20]) (.cond (.tmp 21) .skip (.exit 0))) (.seq (.block 1 (.seq (.reg [z3 24 0,z6 25 24,z4 26 4 25,z5 27 1 26,z3 28 3,z8 29 8 27
 28,z4 30 0 29,z5 31 1 30,zA 32 31 2]) (.cond (.tmp 32) (.seq (.reg [zD 2]) .ret) .skip))) (.reg [z3 22 3,zG 23 22 1,z3 3 23])))))) (.seq (.reg [zZ 2]) .ret))
theorem t123:Tryz.f123.body.bind (trC e123)=some c123:=by kernel_rfl
theorem r123:Tryz.f123.results.toList.mapM (trR Tryz.prog)=some [.tmp 2]:=by kernel_rfl
theorem fn123{args:List Value}{M:Mem}{post:Value→Mem→Prop}(hl:args.length≤33)(h:VC e123 c123 (fnQ [.tmp 2] post) (initS args 33) M):Fn Tryz.prog 123 args M post:=
 Fn.of' (E:=e123) Tryz.func123 t123 rfl r123 mixed hl h
noncomputable def e81:Env:=⟨Tryz.prog,[],26,[]⟩
noncomputable def c81:C:=
 .seq (.reg [qd 1 0,zC 2 0]) (.seq (.seq (.reg [qO 5 116 1,qO 6 117 1,qO 7 118 1,qO 8 119 1,qO 9 120 1,qO 10 121 1,qO 11 122 1,qO 12 123 1,⟨some 13,none,.bslice false 8 1 [.nilFunc,.nilFunc,.nilFunc,.nilFunc,.nilFunc,.nilFunc,.nilFunc,.nilFunc] [(0,1,.tmp 5),(1,1,.tmp 6),(2,1,.tmp 7),(3,1,.tmp 8),(4,1,.tmp 9),(5,1,.tmp 10),(6,1,.tmp 11),(7,1,.tmp 12)]⟩,zE 14 13,zC 15 0]) (.block 0 (.loop (.seq
 (.reg [zN 16 15 14]) (.seq (.cond (.tmp 16) .skip (.exit 0)) (.seq (.block 1 (.seq (.reg [z3 17 15,z8 18 1 13 15,z5 19 1 18,z3 3 17,z3 4 19]) (.seq (.reg [z3 20 4,⟨some 21,none,.callv (.tmp 20) []⟩,zV 22 21]) (.cond (.tmp 22) (.seq (.reg [z3 23 3,zG 24 23 1,z3 2 24]) .ret) .skip)))) (.reg [zG 25 15 1,z3 15 25]))))))) (.seq (.reg [zC 2 0]) .ret))
theorem t81:Tryz.f81.body.bind (trC e81)=some c81:=by kernel_rfl
theorem r81:Tryz.f81.results.toList.mapM (trR Tryz.prog)=some [.tmp 2]:=by kernel_rfl
theorem fn81{args:List Value}{M:Mem}{post:Value→Mem→Prop}(hl:args.length≤26)(h:VC e81 c81 (fnQ [.tmp 2] post) (initS args 26) M):Fn Tryz.prog 81 args M post:=
 Fn.of' (E:=e81) Tryz.func81 t81 rfl r81 mixed hl h
noncomputable def e43:Env:=⟨Tryz.prog,[1],6,[]⟩
noncomputable def c43:C:=
 .seq (.reg [zT 1 0,zD 2]) (.seq (.reg [z9 3 13 1,zM 4 81 3,zA 5 4 0,z3 2 5]) .ret)
theorem t43:Tryz.f43.body.bind (trC e43)=some c43:=by kernel_rfl
theorem r43:Tryz.f43.results.toList.mapM (trR Tryz.prog)=some [.tmp 2]:=by kernel_rfl
theorem fn43{args:List Value}{M:Mem}{post:Value→Mem→Prop}(hl:args.length≤6)(h:VC e43 c43 (fnQ [.tmp 2] post) (initS args 6) M):Fn Tryz.prog 43 args M post:=
 Fn.of' (E:=e43) Tryz.func43 t43 rfl r43 mixed hl h
end Go.Proofs.YtpleoapljeffiaaGreatDoor.E
set_option linter.unusedSimpArgs false
set_option maxHeartbeats 4000000
namespace Go.Proofs.YtpleoapljeffiaaGreatDoor.E
open Go
open Classical
theorem unitsN_nn(cs:List Cell):0≤unitsN cs:=by
 unfold unitsN
 induction cs with
 |nil=>simp
 |cons c r ih=>
  simp only[List.map_cons,List.sum_cons]
  have:0≤c.units:=by unfold Cell.units;split<;>omega
  omega
theorem unitsN_take{cs:List Cell}{i:Nat}{c:Cell}(h:cs[i]?=some c):unitsN (cs.take (i+1))=unitsN (cs.take i)+c.units:=by
 unfold unitsN
 rw[List.take_add_one,h];simp
theorem unitsN_le{cs:List Cell}(h:∀c,c∈cs→c.pairs.length≤200):∀i:Nat,unitsN (cs.take i)≤201*i:=by
 intro i
 induction i with
 |zero=>simp[unitsN]
 |succ i ih=>
  cases hc:cs[i]? with
  |none=>
   have hl:cs.length≤i:=List.getElem?_eq_none_iff.1 hc
   rw[List.take_of_length_le (by omega)]at ih⊢;omega
  |some c=>
   rw[unitsN_take hc]
   have:=h c (List.mem_of_getElem? hc)
   have:c.units≤201:=by unfold Cell.units;split<;>omega
   omega
theorem R2.pl{H:Heap}(h:R2 H){c:Cell}(hc:c∈H.cells):c.pairs.length≤200:=by
 obtain⟨i,hi⟩:=List.getElem?_of_mem hc
 rcases h.each i c hi with h|h|h
 ·rw[h.2.1.2.2.2.2.2];simp
 ·rw[h.2.1.2.2.2.2.2];simp
 ·exact h.2.2.2.2.2.2.2
theorem HX.at{x:HX}{i:Nat}(h:i<x.xs.length):∃y,x.xs[i]?=some y∧x.H.cells[i]?=some y.c:=by
 refine⟨_,List.getElem?_eq_getElem h,?_⟩
 simp[HX.H,List.getElem?_map,List.getElem?_eq_getElem h]
theorem rule3_q{m:Mem}{a:Nat}{x:HX}(h:Has m (hp a x))(h1:R1 x.H)(h2:R2 x.H):Qt Tryz.prog 118 [ptr a] m (.bool (decide (R3 x.H))):=by
 have hc:=h1.cells
 have hr:=h1.room
 have hl:=x.len
 have hu:=unitsN_le (cs:=x.H.cells) (fun c=>h2.pl)
 refine qt_of (fnA_of (fun h=>fn118 (by simp) h) ?_)
 repeat' (first|refine xx ?_|fail)
 refine g_range x.xs.length (fun n:Int=>[(0,.v (ptr a)),(3,.v (.int .i64 n)),(9,.v (.slice x.cd.a x.xs.length x.cd.cap))]) (fun _=>[ro m]) (fun i n=>n=unitsN (x.H.cells.take i)) 0 rfl (fun i n hi hn=>?_) (fun n hn=>?_)
 ·obtain⟨y,gy,gc⟩:=HX.at hi
  have hu1:=hu i
  have hu2:=hu (i+1)
  have hu3:=unitsN_nn (x.H.cells.take i)
  rw[unitsN_take gc]at hu2
  have hp:=h2.pl (List.mem_of_getElem? gc)
  have hu4:0≤y.c.units:=by unfold Cell.units;split<;>omega
  repeat' (first|refine xx ?_|(refine k_L ?_;(refine k_c ?_;refine a_cq rfl (fun m hm=>units_q (y:=y) (by omega)) ?_))|fail)
  exact r_nx (n+y.c.units) (by rw[unitsN_take gc,hn])
 ·rw[List.take_of_length_le (by omega)]at hn
  subst hn
  repeat' (first|refine xx ?_|(refine xy ?_ ?_<;>intro hb<;>try(exfalso;omega))|fail)
  all_goals refine fa_r (fun _ _=>rfl) (Ent.refl _) ⟨bool_dec ?_,rfl⟩
  all_goals simp_all [R3,HX.hdr,HX.H]
  all_goals trace_state
theorem ret_t{p:Prop}{_:Decidable p}(h:p):Value.bool true=.bool (decide p):=by rw[decide_eq_true h]
theorem ret_f{p:Prop}{_:Decidable p}(h:¬p):Value.bool false=.bool (decide p):=by rw[decide_eq_false h]
theorem Has.lens{m:Mem}{a:Nat}{x:HX}(h:Has m (hp a x)):x.regs.length≤140737488355328∧x.xs.length≤140737488355328∧x.gray.length≤140737488355328:=by
 obtain⟨b,l,s⟩:=h
 refine⟨(kn_t (kn_h bd_sl):Kn (hp a x) _).out b s,(kn_t (kn_t (kn_h kb_cl)):Kn (hp a x) _).out b s,(kn_t (kn_t (kn_t (kn_h bd_sl))):Kn (hp a x) _).out b s⟩
theorem R1_iff(H:Heap):R1 H↔((1≤H.room∧H.room≤4000)∧H.regs.length=16∧(H.cells.length:Int)≤2*H.room∧H.gray.length≤H.cells.length∧(0≤H.born∧H.born≤1000000000)∧(0≤H.rounds∧H.rounds≤1000000000)∧(0≤H.forced∧H.forced≤1000000000)∧(0≤H.per∧H.per≤64)∧(0≤H.start∧H.start≤4000)∧(0≤H.phase∧H.phase≤6)∧(0≤H.hand∧H.hand≤H.cells.length)∧(0≤H.sub∧H.sub≤200)):=
 ⟨fun⟨a,b,c,d,e,f,g,h,i,j,k,l⟩=>⟨a,b,c,d,e,f,g,h,i,j,k,l⟩,fun⟨a,b,c,d,e,f,g,h,i,j,k,l⟩=>⟨a,b,c,d,e,f,g,h,i,j,k,l⟩⟩
theorem rule1_q{m:Mem}{a:Nat}{x:HX}(h:Has m (hp a x)):Qt Tryz.prog 116 [ptr a] m (.bool (decide (R1 x.H))):=by
 have hb:=h.lens
 refine qt_of (fnA_of (fun h=>fn116 (by simp) h) ?_)
 repeat' (first|refine xx ?_|(refine xy ?_ ?_<;>intro hb<;>try(exfalso;omega))|(refine k_L ?_;(refine k_c ?_;refine a_cq rfl (fun m hm=>impl.withinQ) ?_))|fail)
 all_goals refine fa_r (fun _ _=>rfl) (Ent.refl _) ⟨bool_dec ?_,rfl⟩
 all_goals (rw[R1_iff];(try simp only[decide_eq_true_eq]);simp only[HX.hdr,Hdr.s_room,Hdr.s_used,Hdr.s_born,Hdr.s_phase,Hdr.s_hand,Hdr.s_sub,Hdr.s_per,Hdr.s_start,Hdr.s_rounds,Hdr.s_forced,Hdr.s_rd,Hdr.s_cd,Hdr.s_gd,HX.H,List.length_map]at*)
 all_goals simp_all
 all_goals omega
theorem HX.atI{x:HX}{i:Int}(h0:0≤i)(h:i<x.xs.length):∃y,x.xs[i.toNat]?=some y∧x.H.getC i=y.c:=by
 obtain⟨y,h1,h2⟩:=HX.at (x:=x) (i:=i.toNat) (by omega)
 refine⟨y,h1,?_⟩
 unfold Heap.getC
 rw[List.getD_eq_getElem?_getD,h2];rfl
theorem rule6_q{m:Mem}{a:Nat}{x:HX}(h:Has m (hp a x))(h1:R1 x.H)(h5:R5 x.H):Qt Tryz.prog 121 [ptr a] m (.bool (decide (R6 x.H))):=by
 have hb:=h.lens
 have hh:=h1.hand
 have hl:=x.len
 refine qt_of (fnA_of (fun h=>fn121 (by simp) h) ?_)
 by_cases hp2:x.phase=2
 ·have hm:=(h5.mark (.inr hp2)).2.1
  have hp2':x.hdr.phase=2:=hp2
  cases hg:x.gray with
  |nil=>
   have hgl:(x.hdr.ng:Int)=0:=by simp[HX.hdr,hg]
   have hgl2:x.gray.length=0:=by simp[hg]
   have hg':x.H.gray=[]:=hg
   repeat' (first|refine xx ?_|(refine xy ?_ ?_<;>intro hb<;>try(exfalso;omega))|fail)
   all_goals refine fa_r (fun _ _=>rfl) (Ent.refl _) ⟨bool_dec ?_,rfl⟩
   all_goals simp_all [R6,HX.hdr,Hdr.s_room,Hdr.s_used,Hdr.s_born,Hdr.s_phase,Hdr.s_hand,Hdr.s_sub,Hdr.s_per,Hdr.s_start,Hdr.s_rounds,Hdr.s_forced,Hdr.s_rd,Hdr.s_cd,Hdr.s_gd,HX.H]
  |cons g r=>
   have hgl1:(x.hdr.ng:Int)=r.length+1:=by simp[HX.hdr,hg]
   have hg':x.H.gray=g::r:=hg
   obtain⟨g0,g1,_⟩:=hm g (by rw[hg'];simp)
   obtain⟨y,gy,gc⟩:=HX.atI (x:=x) g0 (by omega)
   have g00:x.gray[(0:Int).toNat]?=some g:=by rw[hg];rfl
   have hgl:(x.gray.length:Int)=r.length+1:=by rw[hg];simp
   repeat' (first|refine xx ?_|(refine xy ?_ ?_<;>intro hb<;>try(exfalso;omega))|fail)
   all_goals refine fa_r (fun _ _=>rfl) (Ent.refl _) ⟨bool_dec ?_,rfl⟩
   all_goals simp_all [R6,HX.hdr,Hdr.s_room,Hdr.s_used,Hdr.s_born,Hdr.s_phase,Hdr.s_hand,Hdr.s_sub,Hdr.s_per,Hdr.s_start,Hdr.s_rounds,Hdr.s_forced,Hdr.s_rd,Hdr.s_cd,Hdr.s_gd]
   all_goals simp_all [HX.H]
 ·have hp2':¬x.hdr.phase=2:=hp2
  by_cases hh5:x.hand<x.xs.length
  ·obtain⟨y,gy,gc⟩:=HX.atI (x:=x) hh.1 hh5
   have hh5':x.hdr.hand<x.hdr.nc:=hh5
   repeat' (first|refine xx ?_|(refine xy ?_ ?_<;>intro hb<;>try(exfalso;omega))|fail)
   all_goals refine fa_r (fun _ _=>rfl) (Ent.refl _) ⟨bool_dec ?_,rfl⟩
   all_goals simp_all [R6,HX.hdr,Hdr.s_room,Hdr.s_used,Hdr.s_born,Hdr.s_phase,Hdr.s_hand,Hdr.s_sub,Hdr.s_per,Hdr.s_start,Hdr.s_rounds,Hdr.s_forced,Hdr.s_rd,Hdr.s_cd,Hdr.s_gd]
   all_goals simp_all [HX.H]
  ·have hh5':¬(x.hdr.hand<x.hdr.nc):=hh5
   repeat' (first|refine xx ?_|(refine xy ?_ ?_<;>intro hb<;>try(exfalso;omega))|fail)
   all_goals refine fa_r (fun _ _=>rfl) (Ent.refl _) ⟨bool_dec ?_,rfl⟩
   all_goals simp_all [R6,HX.hdr,Hdr.s_room,Hdr.s_used,Hdr.s_born,Hdr.s_phase,Hdr.s_hand,Hdr.s_sub,Hdr.s_per,Hdr.s_start,Hdr.s_rounds,Hdr.s_forced,Hdr.s_rd,Hdr.s_cd,Hdr.s_gd]
   all_goals simp_all [HX.H]
   all_goals (intros;exfalso;omega)
section
variable {m0 m:Mem} {a:Nat} {x:HX} {w:Word} {As F:List Asr} {i k:Int} {mv:Bool}
theorem has_g{Bs:List Asr}(h:Has m0 Bs)(hm:star As m)(hp:Pm As [ro m0] F:=by exact pmt):Has m Bs:=h.le (ro_of hm hp)
theorem formed_g(h:Has m0 (hp a x))(hm:star As m)(hp:Pm As [ro m0] F:=by exact pmt):Qt Tryz.prog 145 [ptr a,wa w] m (.bool (decide (Formed x.H w))):=formed_q (h.le (ro_of hm hp)).ph
theorem marking_g(h:Has m0 (hp a x))(hm:star As m)(hp:Pm As [ro m0] F:=by exact pmt):Qt Tryz.prog 150 [ptr a] m (.bool (decide (Marking x.H))):=marking_q (h.le (ro_of hm hp)).ph
theorem doomed_g(h:Has m0 (hp a x))(h0:0≤i)(h1:i<x.H.cells.length)(hm:star As m)(hp:Pm As [ro m0] F:=by exact pmt):Qt Tryz.prog 147 [ptr a,.int .i64 i] m (.bool (decide (Doomed x.H i))):=doomed_q (h.le (ro_of hm hp)).ph h0 h1
theorem mended_g(h:Has m0 (hp a x))(hm:star As m)(hp:Pm As [ro m0] F:=by exact pmt):Qt Tryz.prog 149 [ptr a,.int .i64 i,.int .i64 k] m (.bool (decide (Mended x.H i k))):=mended_q (h.le (ro_of hm hp)).ph
theorem white_g(h:Has m0 (hp a x))(hf:Formed x.H w)(hm:star As m)(hp:Pm As [ro m0] F:=by exact pmt):Qt Tryz.prog 151 [ptr a,wa w] m (.bool (decide (White x.H w))):=white_q (h.le (ro_of hm hp)).ph hf
theorem leadsWell_g(h:Has m0 (hp a x))(hf:Formed x.H w)(hm:star As m)(hp:Pm As [ro m0] F:=by exact pmt):Qt Tryz.prog 146 [ptr a,wa w,.bool mv] m (.bool (decide (LeadsWell x.H w (mv=true)))):=leadsWell_q (h.le (ro_of hm hp)).ph hf
end
theorem fa_q{rl:List RV}{S:St}{m:Mem}{As F:List Asr}{v r:Value}{y:X}(hy:∀i,y≠.ext i)(h:∀m,star As m→resV S m rl=some v)(e:v=r)(hm:Pm As [ro m] F:=by exact pmt):fnA rl (fun v As=>v=r∧As=[ro m]) y S As:=by
 cases y with
 |ext i=>exact absurd rfl (hy i)
 |nrm=>exact⟨v,[ro m],h,hm.ent,e,rfl⟩
 |ret=>exact⟨v,[ro m],h,hm.ent,e,rfl⟩
theorem q_T{rl:List RV}{S:St}{m:Mem}{As F:List Asr}{p:Prop}{_:Decidable p}(hp:p)(h:∀m,star As m→resV S m rl=some (.bool true):=by(intro _ _;rfl))(hm:Pm As [ro m] F:=by exact pmt):fnA rl (fun v As=>v=.bool (decide p)∧As=[ro m]) .ret S As:=⟨_,[ro m],h,hm.ent,ret_t hp,rfl⟩
theorem q_F{rl:List RV}{S:St}{m:Mem}{As F:List Asr}{p:Prop}{_:Decidable p}(hp:¬p)(h:∀m,star As m→resV S m rl=some (.bool false):=by(intro _ _;rfl))(hm:Pm As [ro m] F:=by exact pmt):fnA rl (fun v As=>v=.bool (decide p)∧As=[ro m]) .ret S As:=⟨_,[ro m],h,hm.ent,ret_f hp,rfl⟩
theorem q_B{rl:List RV}{S:St}{m:Mem}{As F:List Asr}{p:Prop}{_:Decidable p}{b:Bool}(h:∀m,star As m→resV S m rl=some (.bool b))(hp:b=true↔p)(hm:Pm As [ro m] F:=by exact pmt):fnA rl (fun v As=>v=.bool (decide p)∧As=[ro m]) .ret S As:=⟨_,[ro m],h,hm.ent,by congr 1;rw[Bool.eq_iff_iff,hp];simp,rfl⟩
noncomputable def setM(p:Int→Prop):Int→Option Value:=fun i=>if p i then some (.bool true)else none
theorem setM_get{p:Int→Prop}{j:Int}{ok:Bool}(h:ok=false):(if ok then Value.tuple #[(setM p j).getD (.bool false),.bool (setM p j).isSome]else(setM p j).getD (.bool false))=.bool (decide (p j)):=by
 subst h
 unfold setM
 by_cases hp:p j<;>simp[hp]
theorem setM_set{p q:Int→Prop}{j:Int}(h:∀i,q i↔i=j∨p i):(fun i=>if i=j then some (Value.bool true)else setM p i)=setM q:=by
 funext i
 unfold setM
 by_cases e:i=j
 ·simp[e,(h j).2 (.inl rfl)]
 ·rw[if_neg e]
  by_cases hp:p i
  ·rw[if_pos hp,if_pos ((h i).2 (.inr hp))]
  ·rw[if_neg hp,if_neg (fun hq=>((h i).1 hq).elim e hp)]
theorem setM_none:(fun _=>none:Int→Option Value)=setM (fun _=>False):=by funext i;simp[setM]
theorem rule5_q{m:Mem}{a:Nat}{x:HX}(h:Has m (hp a x)):Qt Tryz.prog 120 [ptr a] m (.bool (decide (R5 x.H))):=by
 have hb:=h.lens
 have hl:=x.len
 refine qt_of (fnA_of (fun h=>fn120 (by simp) h) ?_)
 repeat' (first|refine xx ?_|(refine xy ?_ ?_<;>intro hb<;>try(exfalso;omega))|(refine k_L ?_;(refine k_c ?_;refine a_cq rfl (fun m hm=>marking_g h hm) ?_))|fail)
 ·have hmk:=hb
  refine a_mm (fun b=>?_)
  rw[setM_none,show(fun _=>False:Int→Prop)=fun g=>g∈x.gray.take 0 from by funext g;simp]
  repeat' (first|refine xx ?_|fail)
  refine g_range x.gray.length (fun _:Nat=>[(0,.v (ptr a)),(3,.v (.map (some b))),(16,.v (.slice x.gd.a x.gray.length x.gd.cap))]) (fun i=>[mpA b (setM (fun g=>g∈x.gray.take i)),ro m]) (fun i j=>j=i∧(x.gray.take i).Nodup∧∀g,g∈x.gray.take i→0≤g∧g<x.H.cells.length∧(x.H.getC g).state=1∧(x.H.getC g).color=1) 0 ⟨rfl,by simp,by simp⟩ (fun i j hi hv=>?_) (fun j hv=>?_)
  ·obtain⟨rfl,hnd,hv⟩:=hv
   obtain⟨g,gg⟩:∃g,x.gray[j]?=some g:=⟨_,List.getElem?_eq_getElem hi⟩
   have hgm:=List.mem_of_getElem? gg
   have hnc:(x.hdr.nc:Int)=x.H.cells.length:=by rw[hl];rfl
   have htk:x.gray.take (j+1)=x.gray.take j++[g]:=by rw[List.take_add_one,gg];rfl
   have hnin:x.H.gray.Nodup→g∉x.gray.take j:=by
    intro hn hm
    have:x.gray=x.gray.take j++x.gray.drop j:=(List.take_append_drop _ _).symm
    have hn':(x.gray.take j++x.gray.drop j).Nodup:=by rw[←this];exact hn
    rw[List.nodup_append]at hn'
    refine hn'.2.2 g hm g ?_ rfl
    refine List.mem_of_getElem? (i:=0) ?_
    rw[List.getElem?_drop];simpa using gg
   by_cases hin:0≤g∧g<x.H.cells.length
   ·obtain⟨y,gy,gc⟩:=HX.atI (x:=x) hin.1 (by omega)
    repeat' (first|refine xx ?_|(refine xy ?_ ?_<;>intro hb<;>try(exfalso;omega))|(refine k_L ?_;first|(refine k_c ?_;refine a_cq rfl (fun m hm=>impl.withinQ) ?_)|(refine a_lk (by(fail_if_success apply pk_bad);(repeat(first|exact pk_h|apply pk_t));fail_if_success focus skip) rfl rfl (setM_get rfl) ?_)|(refine a_mu (by(fail_if_success apply pk_bad);(repeat(first|exact pk_h|apply pk_t));fail_if_success focus skip) rfl rfl rfl ?_;rw[setM_set (q:=fun g=>g∈x.gray.take (j+1)) (fun i=>by rw[htk];simp[or_comm])]))|fail)
    ·exact q_F fun h5=>absurd ‹g∈x.gray.take j› (hnin (h5.mark ‹_›).1)
    ·exact q_F fun h5=>absurd (gc▸((h5.mark ‹_›).2.1 g hgm).2.2.1) ‹_›
    ·exact q_F fun h5=>absurd (gc▸((h5.mark ‹_›).2.1 g hgm).2.2.2) ‹_›
    ·refine r_nx (j+1) ⟨rfl,?_,fun g' hg'=>?_⟩
     ·rw[htk]
      exact List.nodup_append.2 ⟨hnd,by simp,fun u hu v hv e=>by simp at hv;subst hv;subst e;exact ‹¬_› hu⟩
     ·rw[htk]at hg'
      rcases List.mem_append.1 hg' with hg'|hg'
      ·exact hv g' hg'
      ·simp at hg';subst hg'
       exact⟨hin.1,hin.2,by rw[gc];assumption,by rw[gc];assumption⟩
   ·repeat' (first|refine xx ?_|(refine xy ?_ ?_<;>intro hb<;>try(exfalso;omega))|(refine k_L ?_;(refine k_c ?_;refine a_cq rfl (fun m hm=>impl.withinQ) ?_))|fail)
    exact q_F fun h5=>hin ⟨((h5.mark ‹_›).2.1 g hgm).1,((h5.mark ‹_›).2.1 g hgm).2.1⟩
  ·obtain⟨rfl,hnd,hv⟩:=hv
   rw[List.take_length]at hnd hv⊢
   repeat' (first|refine xx ?_|fail)
   refine g_range x.xs.length (fun _:Unit=>[(3,.v (.map (some b))),(64,.v (.slice x.cd.a x.xs.length x.cd.cap))]) (fun _=>[mpA b (setM (fun g=>g∈x.gray)),ro m]) (fun i _=>∀(j:Nat) c,j<i→x.H.cells[j]?=some c→c.color=1→(j:Int)∈x.gray) () (fun j c hj=>by omega) (fun i _ hi hw=>?_) (fun _ hw=>?_)
   ·obtain⟨y,gy,gc⟩:=HX.at hi
    repeat' (first|refine xx ?_|(refine xy ?_ ?_<;>intro hb<;>try(exfalso;omega))|(refine k_L ?_;(refine a_lk (by(fail_if_success apply pk_bad);(repeat(first|exact pk_h|apply pk_t));fail_if_success focus skip) rfl rfl (setM_get rfl) ?_))|fail)
    ·exact q_F fun h5=>absurd ((h5.mark ‹_›).2.2 i _ gc ‹_›) ‹_›
    all_goals refine r_nx () (fun j c hj hc hk=>?_)
    all_goals (by_cases e:j=i;(subst e;rw[gc]at hc;cases hc;first|assumption|exact absurd hk ‹_›);exact hw j c (by omega) hc hk)
   ·repeat' (first|refine xx ?_|fail)
    refine q_T ⟨fun _=>⟨hnd,hv,fun i c hc hk=>hw i c (by have:=(List.getElem?_eq_some_iff.1 hc).1;omega) hc hk⟩,fun hn=>absurd hmk hn⟩
 ·have hmk:=hb
  repeat' (first|refine xx ?_|(refine xy ?_ ?_<;>intro hb<;>try(exfalso;omega))|fail)
  refine g_range x.xs.length (fun _:Unit=>[(0,.v (ptr a)),(84,.v (.slice x.cd.a x.xs.length x.cd.cap))]) (fun _=>[ro m]) (fun i _=>∀(j:Nat) c,j<i→x.H.cells[j]?=some c→c.color≠1∧(c.color=2→x.H.phase=3∧x.H.hand≤j)) () (fun j c hj=>by omega) (fun i _ hi hw=>?_) (fun _ hw=>?_)
  ·obtain⟨y,gy,gc⟩:=HX.at hi
   repeat' (first|refine xx ?_|(refine xy ?_ ?_<;>intro hb<;>try(exfalso;omega))|fail)
   ·exact q_F fun h5=>absurd ‹y.c.color=1› ((h5.else_ ‹_›).2 i _ gc).1
   ·exact q_F fun h5=>absurd (((h5.else_ ‹_›).2 i _ gc).2 ‹_›).1 ‹_›
   ·exact q_F fun h5=>absurd (((h5.else_ ‹_›).2 i _ gc).2 ‹_›).2 (by show ¬x.hdr.hand≤_;omega)
   all_goals refine r_nx () (fun j c hj hc=>?_)
   all_goals (by_cases e:j=i;(subst e;rw[gc]at hc;cases hc;first|exact⟨‹_›,fun _=>⟨‹_›,by show x.hdr.hand≤_;omega⟩⟩|exact⟨‹_›,fun hk=>absurd hk ‹_›⟩);exact hw j c (by omega) hc)
  ·repeat' (first|refine xx ?_|fail)
   refine q_B (fun _ _=>rfl) ?_
   have hng:x.hdr.ng=x.H.gray.length:=rfl
   constructor
   ·intro he
    have:x.H.gray=[]:=List.eq_nil_of_length_eq_zero (by rw[←hng];simpa using he)
    exact⟨fun hm=>absurd hm hmk,fun _=>⟨this,fun i c hc=>hw i c (by have:=(List.getElem?_eq_some_iff.1 hc).1;omega) hc⟩⟩
   ·intro h5
    have:=(h5.else_ hmk).1
    rw[hng,this];rfl
end Go.Proofs.YtpleoapljeffiaaGreatDoor.E
set_option maxHeartbeats 8000000
namespace Go.Proofs.YtpleoapljeffiaaGreatDoor.E
open Go
open Classical
structure R2p (H:Heap) (n:Nat):Prop where
 each:∀(i:Nat) c,i<n→H.cells[i]?=some c→(c.state=0∧Bare c∧c.to=0)∨MovedOk H i c∨UsedOk H c
 born:∀(i j:Nat) c d,H.cells[i]?=some c→H.cells[j]?=some d→i<j→j<n→c.state=1→d.state=1→c.born≠d.born
 to:∀(i j:Nat) c d,H.cells[i]?=some c→H.cells[j]?=some d→i<j→j<n→c.state=2→d.state=2→c.to≠d.to
def bornB(H:Heap)(n:Nat)(b:Int):Prop:=∃(j:Nat) (c:Cell),j<n∧H.cells[j]?=some c∧c.state=1∧c.born=b
def movedB(H:Heap)(n:Nat)(b:Int):Prop:=∃(j:Nat) (c:Cell),j<n∧H.cells[j]?=some c∧c.state=2∧c.to=b
theorem R2p.zero(H:Heap):R2p H 0:=⟨by omega,by omega,by omega⟩
theorem R2p.all{H:Heap}:R2p H H.cells.length↔R2 H:=
 ⟨fun h=>⟨fun i c hc=>h.each i c (List.getElem?_eq_some_iff.1 hc).1 hc,fun i j c d hc hd hij=>h.born i j c d hc hd hij (List.getElem?_eq_some_iff.1 hd).1,fun i j c d hc hd hij=>h.to i j c d hc hd hij (List.getElem?_eq_some_iff.1 hd).1⟩,
  fun h=>⟨fun i c _=>h.each i c,fun i j c d hc hd hij _=>h.born i j c d hc hd hij,fun i j c d hc hd hij _=>h.to i j c d hc hd hij⟩⟩
theorem R2p.next{H:Heap}{n:Nat}{c:Cell}(h:R2p H n)(hc:H.cells[n]?=some c)(h1:(c.state=0∧Bare c∧c.to=0)∨MovedOk H n c∨UsedOk H c)(h2:c.state=1→¬bornB H n c.born)(h3:c.state=2→¬movedB H n c.to):R2p H (n+1):=by
 refine⟨fun i d hi hd=>?_,fun i j a d ha hd hij hj s1 s2 e=>?_,fun i j a d ha hd hij hj s1 s2 e=>?_⟩
 ·by_cases e:i=n
  ·subst e;rw[hc]at hd;cases hd;exact h1
  ·exact h.each i d (by omega) hd
 ·by_cases e':j=n
  ·subst e';rw[hc]at hd;cases hd;exact h2 s2 ⟨i,a,hij,ha,s1,e⟩
  ·exact h.born i j a d ha hd hij (by omega) s1 s2 e
 ·by_cases e':j=n
  ·subst e';rw[hc]at hd;cases hd;exact h3 s2 ⟨i,a,hij,ha,s1,e⟩
  ·exact h.to i j a d ha hd hij (by omega) s1 s2 e
theorem bornB_next{H:Heap}{n:Nat}{c:Cell}(hc:H.cells[n]?=some c)(b:Int):bornB H (n+1) b↔(c.state=1∧b=c.born)∨bornB H n b:=by
 constructor
 ·rintro⟨j,d,hj,hd,s,e⟩
  by_cases e':j=n
  ·subst e';rw[hc]at hd;cases hd;exact .inl ⟨s,e.symm⟩
  ·exact .inr ⟨j,d,by omega,hd,s,e⟩
 ·rintro(⟨s,e⟩|⟨j,d,hj,hd,s,e⟩)
  ·exact⟨n,c,by omega,hc,s,e.symm⟩
  ·exact⟨j,d,by omega,hd,s,e⟩
theorem movedB_next{H:Heap}{n:Nat}{c:Cell}(hc:H.cells[n]?=some c)(b:Int):movedB H (n+1) b↔(c.state=2∧b=c.to)∨movedB H n b:=by
 constructor
 ·rintro⟨j,d,hj,hd,s,e⟩
  by_cases e':j=n
  ·subst e';rw[hc]at hd;cases hd;exact .inl ⟨s,e.symm⟩
  ·exact .inr ⟨j,d,by omega,hd,s,e⟩
 ·rintro(⟨s,e⟩|⟨j,d,hj,hd,s,e⟩)
  ·exact⟨n,c,by omega,hc,s,e.symm⟩
  ·exact⟨j,d,by omega,hd,s,e⟩
theorem R2.nborn{H:Heap}(h:R2 H){n:Nat}{c:Cell}(hc:H.cells[n]?=some c)(s:c.state=1):¬bornB H n c.born:=fun⟨j,d,hj,hd,s',e⟩=>h.born j n d c hd hc hj s' s e
theorem R2.nmoved{H:Heap}(h:R2 H){n:Nat}{c:Cell}(hc:H.cells[n]?=some c)(s:c.state=2):¬movedB H n c.to:=fun⟨j,d,hj,hd,s',e⟩=>h.to j n d c hd hc hj s' s e
theorem bornB_same{H:Heap}{n:Nat}{c:Cell}(hc:H.cells[n]?=some c)(s:c.state≠1):bornB H (n+1)=bornB H n:=by
 funext b;rw[eq_iff_iff,bornB_next hc];simp[s]
theorem movedB_same{H:Heap}{n:Nat}{c:Cell}(hc:H.cells[n]?=some c)(s:c.state≠2):movedB H (n+1)=movedB H n:=by
 funext b;rw[eq_iff_iff,movedB_next hc];simp[s]
theorem R2.free{H:Heap}(h:R2 H){n:Nat}{c:Cell}(hc:H.cells[n]?=some c)(s:c.state=0):Bare c∧c.to=0:=by
 rcases h.each n c hc with h|h|h
 ·exact h.2
 ·have:=h.1;omega
 ·have:=h.1;omega
theorem R2.moved{H:Heap}(h:R2 H){n:Nat}{c:Cell}(hc:H.cells[n]?=some c)(s:c.state=2):MovedOk H n c:=by
 rcases h.each n c hc with h|h|h
 ·have:=h.1;omega
 ·exact h
 ·have:=h.1;omega
theorem R2.used{H:Heap}(h:R2 H){n:Nat}{c:Cell}(hc:H.cells[n]?=some c)(s:c.state=1):UsedOk H c:=by
 rcases h.each n c hc with h|h|h
 ·have:=h.1;omega
 ·have:=h.1;omega
 ·exact h
theorem rule2_q{m:Mem}{a:Nat}{x:HX}(h:Has m (hp a x)):Qt Tryz.prog 117 [ptr a] m (.bool (decide (R2 x.H))):=by
 have hb:=h.lens
 have hl:=x.len
 refine qt_of (fnA_of (fun h=>fn117 (by simp) h) ?_)
 refine v_seq ?_
 repeat' (first
  |(refine k_L ?_;refine a_p rfl ?_)
  |refine a_n ?_
  |(refine k_V ?_;refine v_reg ?_)
  |refine s_n ?_)
 refine v_seq ?_
 refine v_reg ?_
 refine a_mm (fun mb=>?_)
 refine a_mm (fun mt=>?_)
 rw[setM_none,show(fun _=>False:Int→Prop)=bornB x.H 0 from by funext b;simp[bornB]]
 repeat' (first|refine xx ?_|fail)
 refine g_range x.xs.length (fun _:Nat=>[(0,.v (ptr a)),(3,.v (.map (some mb))),(4,.v (.map (some mt))),(13,.v (.slice x.cd.a x.xs.length x.cd.cap))]) (fun n=>[mpA mt (setM (movedB x.H n)),mpA mb (setM (bornB x.H n)),ro m]) (fun i n=>n=i∧R2p x.H i) 0 ⟨rfl,R2p.zero _⟩ (hent:=by rw[show movedB x.H 0=bornB x.H 0 from by funext b;simp[bornB,movedB]];exact Ent.refl _) (fun i n hi hv=>?_) (fun n hv=>?_)
 ·obtain⟨rfl,hv⟩:=hv
  obtain⟨y,gy,gc⟩:=HX.at hi
  have hbp:y.c.pairs.length≤140737488355328:=by obtain⟨b,l,s⟩:=h;exact(kn_t (kn_t (kn_h (kb_cp gy))):Kn (hp a x) _).out b s
  refine v_seq ?_
  repeat' (first
   |(refine k_L ?_;first|refine a_p rfl ?_|(refine k_i ?_;refine g_i rfl rfl ?_)|(refine k_ls ?_;refine g_ls rfl ?_)|(refine k_st ?_;refine g_sw rfl rfl rfl rfl (Nat.le_of_ble_eq_true rfl) ?_)|(refine k_al ?_;refine a_al ?_))
   |refine a_n ?_
   |(refine k_V ?_;refine v_reg ?_)
   |refine s_n ?_
   |refine sk_zero ?_
   |refine sk_succ ?_
   |refine wk_nil ?_
   |refine wk_cons ?_)
  refine v_seq ?_
  repeat' (first
   |(refine k_L ?_;refine a_p rfl ?_)
   |refine a_n ?_
   |(refine k_V ?_;first|refine v_reg ?_|refine v_bs ?_))
  refine v_seq ?_
  repeat' (first
   |(refine k_L ?_;refine a_p rfl ?_)
   |refine a_n ?_
   |(refine k_V ?_;refine v_reg ?_)
   |refine s_n ?_)
  refine v_ce rfl (fun hs0=>?_) (fun hs0=>?_)
  ·repeat' (first|refine xx ?_|(refine xy ?_ ?_<;>intro hb<;>try(exfalso;omega))|(refine k_L ?_;(refine k_c ?_;refine a_cq rfl (fun m hm=>bare_q (y:=y)) ?_))|fail)
   ·exact q_F fun h2=>absurd (h2.free gc hs0).1 ‹_›
   ·exact q_F fun h2=>absurd (h2.free gc hs0).2 ‹_›
   ·exact r_nx (n+1) ⟨rfl,hv.next gc (.inl ⟨hs0,‹_›,‹_›⟩) (fun s=>by omega) (fun s=>by omega)⟩ (he:=by rw[bornB_same gc (by omega),movedB_same gc (by omega)];exact Ent.refl _)
  refine v_seq ?_
  repeat' (first
   |(refine k_L ?_;refine a_p rfl ?_)
   |refine a_n ?_
   |(refine k_V ?_;refine v_reg ?_)
   |refine s_n ?_)
  refine v_ce rfl (fun hs2=>?_) (fun hs2=>?_)
  ·have hnc:(x.hdr.nc:Int)=x.xs.length:=rfl
   by_cases hto:0≤y.c.to∧y.c.to≤(n:Int)-1
   ·obtain⟨z,gz,gzc⟩:=HX.atI (x:=x) hto.1 (by omega)
    refine v_seq ?_
    refine v_seq ?_
    repeat' (first
     |(refine k_L ?_;first|(refine k_su ?_;refine g_su rfl rfl ?_)|refine a_p rfl ?_|(refine k_g ?_;first|refine a_gy rfl rfl ?_|refine a_gn rfl rfl ?_|(refine a_gd rfl (fun hb=>?_) (fun hb=>?_)<;>try(exfalso;omega))|(refine a_gne rfl (fun hb=>?_) (fun hb=>?_)<;>try(exfalso;omega))|(refine a_gnd rfl (fun hb=>?_) (fun hb=>?_)<;>try(exfalso;omega)))|(refine k_l ?_;refine g_l rfl ?_)|(refine k_i ?_;refine g_i rfl rfl ?_)|(refine k_q ?_;first|refine a_q rfl (fun m hm=>bare_q (y:=y)) ?_|refine a_q rfl (fun m hm=>impl.withinQ) ?_)|(refine a_lk (by(fail_if_success apply pk_bad);(repeat(first|exact pk_h|apply pk_t));fail_if_success focus skip) rfl rfl (setM_get rfl) ?_))
     |refine a_n ?_
     |(refine k_V ?_;first|refine v_rv ?_|refine v_dreg ?_|refine v_skip ?_|refine v_ct rfl ?_|(refine v_cd rfl (fun hb=>?_) (fun hb=>?_)<;>try(exfalso;omega)))
     |refine s_n ?_
     |refine s_r ?_
     |refine b_r ?_
     |refine r_rt ?_)
    ·exact q_F fun h2=>absurd (h2.moved gc hs2).2.1 ‹_›
    ·exact q_F fun h2=>absurd (h2.moved gc hs2).2.2.1 (by show ¬4≤x.hdr.phase;omega)
    ·exact q_F fun h2=>absurd (gzc▸(h2.moved gc hs2).2.2.2.2.1) ‹_›
    ·exact q_F fun h2=>absurd ‹movedB _ _ _› (h2.nmoved gc hs2)
    have hmb:¬movedB x.H n y.c.to:=‹_›
    have hzs:z.c.state=1:=‹_›
    have hbare:Bare y.c:=‹_›
    have hph:¬x.hdr.phase<4:=‹_›
    refine v_seq ?_
    repeat' (first
     |(refine k_L ?_;first|refine a_p rfl ?_|(refine a_mu (by(fail_if_success apply pk_bad);(repeat(first|exact pk_h|apply pk_t));fail_if_success focus skip) rfl rfl rfl ?_;rw[setM_set (q:=movedB x.H (n+1)) (fun b=>by rw[movedB_next gc];simp[hs2])]))
     |refine a_n ?_
     |(refine k_V ?_;refine v_reg ?_)
     |refine s_n ?_)
    refine v_seq ?_
    repeat' (first
     |(refine k_L ?_;refine a_p rfl ?_)
     |refine a_n ?_
     |(refine k_V ?_;refine v_reg ?_)
     |refine s_n ?_)
    refine v_blk ?_
    refine v_loop (fun k:Nat=>[(0,.v (ptr a)),(3,.v (.map (some mb))),(4,.v (.map (some mt))),(6,.box (csw y)),(7,.v (.int .i64 k)),(13,.v (.slice x.cd.a x.xs.length x.cd.cap)),(14,.v (.int .i64 x.xs.length)),(15,.v (.int .i64 n))]) (fun _=>[mpA mt (setM (movedB x.H (n+1))),mpA mb (setM (bornB x.H n)),ro m])
     (fun f k=>f=y.c.to.toNat-k∧(k:Int)≤y.c.to∧(x.H.phase=4→∀j:Int,0≤j→j<k→(x.H.getC j).state≠0)) ⟨_,0,⟨rfl,rfl,rfl,rfl,rfl,rfl,rfl,rfl,trivial⟩,Ent.refl _,rfl,by omega,fun _ j _ _=>by omega⟩ ?_
    rintro f k ⟨rfl,hk,hw⟩
    have done:(x.H.phase=4→∀j:Int,0≤j→j<y.c.to→(x.H.getC j).state≠0)→R2p x.H (n+1):=fun hd=>
     hv.next gc (.inr (.inl ⟨hs2,hbare,by show 4≤x.hdr.phase;omega,⟨hto.1,by omega⟩,by rw[gzc];exact hzs,hd⟩)) (fun s=>by omega) (fun _=>hmb)
    by_cases hkt:(k:Int)<y.c.to
    ·obtain⟨u,gu,guc⟩:=HX.atI (x:=x) (i:=(k:Int)) (by omega) (by omega)
     repeat' (first|refine xx ?_|(refine xy ?_ ?_<;>intro hb<;>try(exfalso;omega))|fail)
     ·exact q_F fun h2=>(h2.moved gc hs2).2.2.2.2.2 ‹_› k (by omega) hkt (by rw[guc];assumption)
     ·refine⟨_,k+1,?_,⟨rfl,rfl,rfl,rfl,rfl,rfl,rfl,rfl,trivial⟩,Ent.refl _,rfl,by omega,fun hp j j0 j1=>?_⟩
      ·omega
      ·by_cases e:j=k
       ·subst e;rw[guc];assumption
       ·exact hw hp j j0 (by omega)
     ·exact r_nx (n+1) ⟨rfl,done fun hp=>absurd hp ‹_›⟩ (he:=by rw[bornB_same gc (by omega)];exact Ent.refl _)
    ·repeat' (first|refine xx ?_|(refine xy ?_ ?_<;>intro hb<;>try(exfalso;omega))|fail)
     exact r_nx (n+1) ⟨rfl,done fun hp j j0 j1=>hw hp j j0 (by omega)⟩ (he:=by rw[bornB_same gc (by omega)];exact Ent.refl _)
   ·repeat' (first|refine xx ?_|(refine xy ?_ ?_<;>intro hb<;>try(exfalso;omega))|(refine k_L ?_;(refine k_q ?_;first|refine a_q rfl (fun m hm=>bare_q (y:=y)) ?_|refine a_q rfl (fun m hm=>impl.withinQ) ?_))|fail)
    ·exact q_F fun h2=>absurd (h2.moved gc hs2).2.1 ‹_›
    ·exact q_F fun h2=>absurd (h2.moved gc hs2).2.2.1 (by show ¬4≤x.hdr.phase;omega)
    ·exact q_F fun h2=>hto ⟨(h2.moved gc hs2).2.2.2.1.1,by have:=(h2.moved gc hs2).2.2.2.1.2;omega⟩
  refine v_seq ?_
  repeat' (first
   |(refine k_L ?_;refine a_p rfl ?_)
   |refine a_n ?_
   |(refine k_V ?_;refine v_reg ?_)
   |refine s_n ?_)
  refine v_ce rfl (fun hs1=>?_) (fun hs1=>?_)
  ·repeat' (first|refine xx ?_|(refine xy ?_ ?_<;>intro hb<;>try(exfalso;omega))|(refine k_L ?_;first|(refine k_q ?_;refine a_q rfl (fun m hm=>impl.withinQ) ?_)|(refine a_lk (by(fail_if_success apply pk_bad);(repeat(first|exact pk_h|apply pk_t));fail_if_success focus skip) rfl rfl (setM_get rfl) ?_)|(refine a_mu (by(fail_if_success apply pk_bad);(repeat(first|exact pk_h|apply pk_t));fail_if_success focus skip) rfl rfl rfl ?_;rw[setM_set (q:=bornB x.H (n+1)) (fun b=>by rw[bornB_next gc];simp[hs1])]))|fail)
   ·exact q_F fun h2=>absurd (h2.used gc hs1).2.1 ‹_›
   ·exact q_F fun h2=>absurd (h2.used gc hs1).2.2.1 ‹_›
   ·exact q_F fun h2=>absurd (h2.used gc hs1).2.2.2.1 ‹_›
   ·exact q_F fun h2=>absurd (h2.used gc hs1).2.2.2.2.1 ‹_›
   ·exact q_F fun h2=>absurd (h2.used gc hs1).2.2.2.2.2.1 ‹_›
   ·exact q_F fun h2=>absurd (h2.used gc hs1).2.2.2.2.2.2.1 ‹_›
   ·exact q_F fun h2=>absurd (h2.used gc hs1).2.2.2.2.2.2.2 (by omega)
   ·exact q_F fun h2=>absurd ‹bornB _ _ _› (h2.nborn gc hs1)
   ·exact r_nx (n+1) ⟨rfl,hv.next gc (.inr (.inr ⟨hs1,‹_›,‹_›,‹_›,‹_›,‹_›,‹_›,by omega⟩)) (fun _=>‹_›) (fun s=>by omega)⟩ (he:=by rw[movedB_same gc (by omega)];exact Pm.ent pmt)
  ·repeat' (first|refine xx ?_|fail)
   exact q_F fun h2=>by
    rcases h2.each n _ gc with h|h|h
    ·exact hs0 h.1
    ·exact hs2 h.1
    ·exact hs1 h.1
 ·obtain⟨rfl,hv⟩:=hv
  repeat' (first|refine xx ?_|fail)
  exact q_T (R2p.all.1 (by rw[hl];exact hv))
end Go.Proofs.YtpleoapljeffiaaGreatDoor.E
set_option maxHeartbeats 4000000
namespace Go.Proofs.YtpleoapljeffiaaGreatDoor.E
open Go
open Classical
def OK4(H:Heap)(i:Nat)(c:Cell):Prop:=(Doomed H i→¬Root c)∧∀(k:Nat) p,c.pairs[k]?=some p→Formed H p.key∧Formed H p.val∧(¬Doomed H i→LeadsWell H p.key (¬Mended H i k)∧LeadsWell H p.val (¬Mended H i k))
theorem leadsWell_b{H:Heap}{w:Word}{b:Bool}{p:Prop}(h:b=true↔p):LeadsWell H w (b=true)↔LeadsWell H w p:=by unfold LeadsWell;rw[h]
theorem rule4_q{m:Mem}{a:Nat}{x:HX}(h:Has m (hp a x)):Qt Tryz.prog 119 [ptr a] m (.bool (decide (R4 x.H))):=by
 have hb:=h.lens
 have hl:=x.len
 refine qt_of (fnA_of (fun h=>fn119 (by simp) h) ?_)
 repeat' (first|refine xx ?_|fail)
 refine g_range x.regs.length (fun _:Unit=>[(0,.v (ptr a)),(13,.v (.slice x.rd.a x.regs.length x.rd.cap))]) (fun _=>[ro m]) (fun i _=>∀(j:Nat) w,j<i→x.regs[j]?=some w→Formed x.H w∧LeadsWell x.H w False) () (fun j c hj=>by omega) (fun i _ hi hv=>?_) (fun _ hr=>?_)
 ·obtain⟨w,gw⟩:∃w,x.regs[i]?=some w:=⟨_,List.getElem?_eq_getElem hi⟩
  repeat' (first|refine xx ?_|(refine xy ?_ ?_<;>intro hb<;>try(exfalso;omega))|(refine k_L ?_;(refine k_c ?_;first|refine a_cq rfl (fun m hm=>formed_g h hm (w:=w)) ?_|refine a_cq rfl (fun m hm=>leadsWell_g h ‹_› hm (w:=w)) ?_))|fail)
  ·exact q_F fun h4=>absurd ((h4.regs w (List.mem_of_getElem? gw)).1) ‹_›
  ·exact q_F fun h4=>absurd ((leadsWell_b (b:=false) (p:=False) (by simp)).2 (h4.regs w (List.mem_of_getElem? gw)).2) ‹_›
  ·refine r_nx () (fun j v hj hq=>?_)
   by_cases e:j=i
   ·subst e;rw[gw]at hq;cases hq;exact⟨‹_›,(leadsWell_b (b:=false) (p:=False) (by simp)).1 ‹_›⟩
   ·exact hv j v (by omega) hq
 repeat' (first|refine xx ?_|fail)
 refine g_range x.xs.length (fun _:Unit=>[(0,.v (ptr a)),(33,.v (.slice x.cd.a x.xs.length x.cd.cap))]) (fun _=>[ro m]) (fun i _=>∀(j:Nat) c,j<i→x.H.cells[j]?=some c→OK4 x.H j c) () (fun j c hj=>by omega) (fun i _ hi hv=>?_) (fun _ hv=>?_)
 ·obtain⟨y,gy,gc⟩:=HX.at hi
  have hbp:y.c.pairs.length≤140737488355328:=by obtain⟨b,l,s⟩:=h;exact(kn_t (kn_t (kn_h (kb_cp gy))):Kn (hp a x) _).out b s
  refine v_seq ?_
  repeat' (first
   |(refine k_L ?_;first|refine a_p rfl ?_|(refine k_i ?_;refine g_i rfl rfl ?_)|(refine k_ls ?_;refine g_ls rfl ?_)|(refine k_st ?_;refine g_sw rfl rfl rfl rfl (Nat.le_of_ble_eq_true rfl) ?_)|(refine k_al ?_;refine a_al ?_))
   |refine a_n ?_
   |(refine k_V ?_;refine v_reg ?_)
   |refine s_n ?_
   |refine sk_zero ?_
   |refine sk_succ ?_
   |refine wk_nil ?_
   |refine wk_cons ?_)
  refine g_cut (fun _:Unit=>[(0,.v (ptr a)),(5,.v (.int .i64 i)),(6,.box (csw y)),(33,.v (.slice x.cd.a x.xs.length x.cd.cap)),(34,.v (.int .i64 x.xs.length)),(35,.v (.int .i64 i))]) (fun _=>[ro m]) (fun _=>Doomed x.H i→¬Root y.c) ?_ (fun _ hdr=>?_)
  ·repeat' (first|refine xx ?_|(refine xy ?_ ?_<;>intro hb<;>try(exfalso;omega))|(refine k_L ?_;(refine k_c ?_;first|refine a_cq rfl (fun m hm=>doomed_g h (by omega) (by omega) hm (i:=i)) ?_|refine a_cq rfl (fun m hm=>root_q (y:=y)) ?_))|fail)
   ·exact q_F fun h4=>absurd ‹Root y.c› (h4.roots i _ gc ‹_›)
   all_goals refine j_i () (fun r1=>?_)
   all_goals first|assumption|exact absurd r1 ‹_›
  repeat' (first
   |(refine k_L ?_;refine a_p rfl ?_)
   |refine a_n ?_
   |(refine k_V ?_;first|refine v_seq ?_|refine v_reg ?_)
   |refine s_n ?_)
  refine g_range y.c.pairs.length (fun _:Unit=>[(0,.v (ptr a)),(5,.v (.int .i64 i)),(33,.v (.slice x.cd.a x.xs.length x.cd.cap)),(34,.v (.int .i64 x.xs.length)),(35,.v (.int .i64 i)),(48,.v (.slice y.d.a y.c.pairs.length y.d.cap))]) (fun _=>[ro m]) (fun k _=>∀(j:Nat) p,j<k→y.c.pairs[j]?=some p→Formed x.H p.key∧Formed x.H p.val∧(¬Doomed x.H i→LeadsWell x.H p.key (¬Mended x.H i j)∧LeadsWell x.H p.val (¬Mended x.H i j))) () (fun j c hj=>by omega) (fun k _ hk hv=>?_) (fun _ hw=>?_)
  ·obtain⟨p,gp⟩:∃p,y.c.pairs[k]?=some p:=⟨_,List.getElem?_eq_getElem (by omega)⟩
   have nx:Formed x.H p.key∧Formed x.H p.val∧(¬Doomed x.H i→LeadsWell x.H p.key (¬Mended x.H i k)∧LeadsWell x.H p.val (¬Mended x.H i k))→∀(j:Nat) q,j<k+1→y.c.pairs[j]?=some q→Formed x.H q.key∧Formed x.H q.val∧(¬Doomed x.H i→LeadsWell x.H q.key (¬Mended x.H i j)∧LeadsWell x.H q.val (¬Mended x.H i j)):=by
    intro hp j q hj hq
    by_cases e:j=k
    ·subst e;rw[gp]at hq;cases hq;exact hp
    ·exact hv j q (by omega) hq
   have lw:=fun w=>leadsWell_b (H:=x.H) (w:=w) (b:= !decide (Mended x.H i k)) (p:=¬Mended x.H i k) (by simp)
   repeat' (first|refine xx ?_|(refine xy ?_ ?_<;>intro hb<;>try(exfalso;omega))|(refine k_L ?_;(refine k_c ?_;first|refine a_cq rfl (fun m hm=>formed_g h hm (w:=p.key)) ?_|refine a_cq rfl (fun m hm=>formed_g h hm (w:=p.val)) ?_|refine a_cq rfl (fun m hm=>doomed_g h (by omega) (by omega) hm (i:=i)) ?_|refine a_cq rfl (fun m hm=>mended_g h hm (i:=i) (k:=k)) ?_|refine a_cq rfl (fun m hm=>leadsWell_g h ‹_› hm (w:=p.key)) ?_|refine a_cq rfl (fun m hm=>leadsWell_g h ‹_› hm (w:=p.val)) ?_))|fail)
   ·exact q_F fun h4=>‹¬Formed x.H p.key› (h4.pairs i _ gc k p gp).1
   ·exact q_F fun h4=>‹¬Formed x.H p.val› (h4.pairs i _ gc k p gp).2.1
   ·exact r_ct () (nx ⟨‹_›,‹_›,fun hd=>absurd ‹Doomed x.H i› hd⟩)
   ·exact q_F fun h4=>absurd ((lw p.key).2 ((h4.pairs i _ gc k p gp).2.2 ‹_›).1) ‹_›
   ·exact q_F fun h4=>absurd ((lw p.val).2 ((h4.pairs i _ gc k p gp).2.2 ‹_›).2) ‹_›
   ·exact r_nx () (nx ⟨‹_›,‹_›,fun _=>⟨(lw p.key).1 ‹_›,(lw p.val).1 ‹_›⟩⟩)
  ·repeat' (first|refine xx ?_|(refine xy ?_ ?_<;>intro hb<;>try(exfalso;omega))|fail)
   refine r_nx () (fun j c hj hc=>?_)
   by_cases e:j=i
   ·subst e;rw[gc]at hc;cases hc
    exact⟨hdr,fun k p gp=>hw k p (List.getElem?_eq_some_iff.1 gp).1 gp⟩
   ·exact hv j c (by omega) hc
 ·repeat' (first|refine xx ?_|fail)
  refine q_T ⟨fun w hw=>?_,fun i c hc=>(hv i c (by have:=(List.getElem?_eq_some_iff.1 hc).1;omega) hc).1,fun i c hc=>(hv i c (by have:=(List.getElem?_eq_some_iff.1 hc).1;omega) hc).2⟩
  obtain⟨i,hi⟩:=List.getElem?_of_mem hw
  exact hr i w (List.getElem?_eq_some_iff.1 hi).1 hi
theorem rule8_q{m:Mem}{a:Nat}{x:HX}(h:Has m (hp a x))(h1:R1 x.H):Qt Tryz.prog 123 [ptr a] m (.bool (decide (R8 x.H))):=by
 have hb:=h.lens
 have hh:0≤x.hdr.hand∧x.hdr.hand≤x.xs.length:=by have:=h1.hand;rw[x.len]at this;exact this
 have hnc:x.hdr.nc=x.xs.length:=rfl
 refine qt_of (fnA_of (fun h=>fn123 (by simp) h) ?_)
 repeat' (first|refine xx ?_|fail)
 refine v_blk ?_
 refine v_loop (fun i:Int=>[(0,.v (ptr a)),(3,.v (.int .i64 i))]) (fun _=>[ro m]) (fun k i=>k=(x.xs.length-i).toNat∧x.hdr.hand≤i∧i≤x.xs.length∧(x.hdr.phase=6→∀j:Nat,x.hdr.hand≤j→j<i→∀c,x.H.cells[j]?=some c→c.state≠2))
  ⟨_,x.hdr.hand,⟨rfl,rfl,trivial⟩,Ent.refl _,rfl,Int.le_refl _,hh.2,fun _ j _ _=>by omega⟩ ?_
 rintro k i ⟨rfl,h2,h3,h4⟩
 by_cases hi:i<x.xs.length
 ·obtain⟨y,gy,gc⟩:=HX.at (x:=x) (i:=i.toNat) (by omega)
  repeat' (first|refine xx ?_|(refine xy ?_ ?_<;>intro hb<;>try(exfalso;omega))|fail)
  ·exact q_F fun h8=>h8 ‹_› i.toNat _ gc (by show x.hdr.hand≤_;omega) ‹_›
  ·refine⟨_,i+1,?_,⟨rfl,rfl,trivial⟩,Ent.refl _,rfl,by omega,by omega,fun h6 j a1 a2 c hc=>?_⟩
   ·omega
   ·by_cases e:(j:Int)<i
    ·exact h4 h6 j a1 e c hc
    ·have:j=i.toNat:=by omega
     subst this
     rw[gc]at hc;cases hc;assumption
  all_goals exact q_T fun h6=>absurd h6 ‹_›
 ·repeat' (first|refine xx ?_|(refine xy ?_ ?_<;>intro hb<;>try(exfalso;omega))|fail)
  ·exact q_T fun h6 j c hc hj=>h4 h6 j hj (by have:=(List.getElem?_eq_some_iff.1 hc).1;have:=x.len;omega) c hc
  all_goals exact q_T fun h6=>absurd h6 ‹_›
def OK7(H:Heap)(i:Nat)(c:Cell):Prop:=(Root c→c.color=0→H.phase≠2∧H.hand≤i)∧∀(k:Nat) p,c.pairs[k]?=some p→(k:Int)<scanned H i c→¬White H p.key∧¬White H p.val
theorem rule7_q{m:Mem}{a:Nat}{x:HX}(h:Has m (hp a x))(h1:R1 x.H)(h4:R4 x.H)(h6:R6 x.H):Qt Tryz.prog 122 [ptr a] m (.bool (decide (R7 x.H))):=by
 have hb:=h.lens
 have hl:=x.len
 refine qt_of (fnA_of (fun h=>fn122 (by simp) h) ?_)
 repeat' (first|refine xx ?_|(refine xy ?_ ?_<;>intro hb<;>try(exfalso;omega))|(refine k_L ?_;(refine k_c ?_;refine a_cq rfl (fun m hm=>marking_g h hm) ?_))|fail)
 ·exact q_T fun hk=>absurd hk ‹_›
 rename_i hmk
 have g0:(∃g,x.gray[(0:Int).toNat]?=some g∧x.H.gray.head?=some g)∨(x.hdr.ng:Int)=0∧x.H.gray.head?=none:=by
  show(∃g,x.gray[(0:Int).toNat]?=some g∧x.gray.head?=some g)∨(x.gray.length:Int)=0∧x.gray.head?=none
  cases x.gray with
  |nil=>exact .inr ⟨rfl,rfl⟩
  |cons g r=>exact .inl ⟨g,rfl,rfl⟩
 have hng:x.hdr.ng=x.gray.length:=rfl
 refine g_range x.xs.length (fun _:Unit=>[(0,.v (ptr a)),(14,.v (.slice x.cd.a x.xs.length x.cd.cap))]) (fun _=>[ro m]) (fun i _=>∀(j:Nat) c,j<i→x.H.cells[j]?=some c→OK7 x.H j c) () (fun j c hj=>by omega) (fun i _ hi hv=>?_) (fun _ hv=>?_)
 ·obtain⟨y,gy,gc⟩:=HX.at hi
  have hcp:=(kn_t (kn_t (kn_h (kc_cp gy))):Kn (hp a x) _)
  have hcap:y.c.pairs.length≤y.d.cap:=by obtain⟨b,l,s⟩:=h;exact hcp.out b s
  have hsc:(if y.c.color=2 then(y.c.pairs.length:Int)else if x.hdr.phase=2∧x.H.gray.head?=some (i:Int)then x.hdr.sub else 0)=scanned x.H i y.c:=rfl
  refine v_seq ?_
  repeat' (first
   |(refine k_L ?_;first|refine a_p rfl ?_|(refine k_i ?_;refine g_i rfl rfl ?_)|(refine k_ls ?_;refine g_ls rfl ?_)|(refine k_st ?_;refine g_sw rfl rfl rfl rfl (Nat.le_of_ble_eq_true rfl) ?_)|(refine k_al ?_;refine a_al ?_))
   |refine a_n ?_
   |(refine k_V ?_;refine v_reg ?_)
   |refine s_n ?_
   |refine sk_zero ?_
   |refine sk_succ ?_
   |refine wk_nil ?_
   |refine wk_cons ?_)
  refine g_cut (fun _:Unit=>[(0,.v (ptr a)),(3,.v (.int .i64 i)),(4,.box (csw y)),(14,.v (.slice x.cd.a x.xs.length x.cd.cap)),(15,.v (.int .i64 x.xs.length)),(16,.v (.int .i64 i))]) (fun _=>[ro m]) (fun _=>Root y.c→y.c.color=0→x.hdr.phase≠2∧x.hdr.hand≤i) ?_ (fun _ hr=>?_)
  ·repeat' (first|refine xx ?_|(refine xy ?_ ?_<;>intro hb<;>try(exfalso;omega))|(refine k_L ?_;(refine k_c ?_;refine a_cq rfl (fun m hm=>root_q (y:=y)) ?_))|fail)
   ·exact q_F fun h7=>absurd ‹x.hdr.phase=2› ((h7 ‹_› i _ gc).1 ‹_› ‹_›).1
   ·exact q_F fun h7=>absurd ((h7 ‹_› i _ gc).1 ‹_› ‹_›).2 (by show ¬x.hdr.hand≤_;omega)
   all_goals refine j_i () (fun r1 r2=>?_)
   ·exact⟨‹_›,by omega⟩
   all_goals first|exact absurd r1 ‹_›|exact absurd r2 ‹_›
  refine v_seq ?_
  repeat' (first
   |(refine k_L ?_;refine a_p rfl ?_)
   |refine a_n ?_
   |(refine k_V ?_;refine v_reg ?_)
   |refine s_n ?_)
  refine g_cut (fun n:Int=>[(0,.v (ptr a)),(3,.v (.int .i64 i)),(4,.box (csw y)),(5,.v (.int .i64 n)),(14,.v (.slice x.cd.a x.xs.length x.cd.cap)),(15,.v (.int .i64 x.xs.length)),(16,.v (.int .i64 i))]) (fun _=>[ro m]) (fun n=>n=scanned x.H i y.c) ?_ (fun n hn=>?_)
  ·rw[←hsc]
   rcases g0 with⟨g,g0,g1⟩|⟨g0,g1⟩
   ·have hlg:=(List.getElem?_eq_some_iff.1 g0).1
    have hlg2:(0:Int)<x.hdr.ng:=by rw[hng];have:(0:Int).toNat=0:=rfl;omega
    repeat' (first|refine xx ?_|(refine xy ?_ ?_<;>intro hb<;>try(exfalso;omega))|fail)
    all_goals refine j_i _ ?_
    all_goals simp_all
   ·repeat' (first|refine xx ?_|(refine xy ?_ ?_<;>intro hb<;>try(exfalso;omega))|fail)
    all_goals refine j_i _ ?_
    all_goals simp_all
  have hbp:y.c.pairs.length≤140737488355328:=by obtain⟨b,l,s⟩:=h;exact(kn_t (kn_t (kn_h (kb_cp gy))):Kn (hp a x) _).out b s
  have hn0:0≤n∧n≤y.c.pairs.length:=by
   rw[hn,←hsc]
   split
   ·omega
   ·split
    ·rename_i hg
     have hg2:=h6
     unfold R6 at hg2
     have hp:x.H.phase=2:=hg.1
     rw[if_neg (by rw[hp];decide),if_pos hp]at hg2
     cases hgr:x.H.gray with
     |nil=>rw[hgr]at hg;simp at hg
     |cons g r=>
      rw[hgr]at hg hg2
      have hgi:g=(i:Int):=by simpa using hg.2
      have h3:=hg2.2
      simp only[hgi]at h3
      have hgc:x.H.getC (i:Int)=y.c:=by unfold Heap.getC;rw[List.getD_eq_getElem?_getD];show(x.H.cells[i]?).getD _=_;rw[gc];rfl
      rw[hgc]at h3
      exact⟨h1.sub.1,h3⟩
    ·omega
  repeat' (first
   |(refine k_L ?_;first|refine a_p rfl ?_|(refine g_tk (e:=y.d) rfl rfl ?_))
   |refine a_n ?_
   |(refine k_V ?_;first|refine v_seq ?_|refine v_reg ?_)
   |refine s_n ?_)
  refine g_range n.toNat (fun _:Unit=>[(0,.v (ptr a)),(14,.v (.slice x.cd.a x.xs.length x.cd.cap)),(15,.v (.int .i64 x.xs.length)),(16,.v (.int .i64 i)),(79,.v (.slice y.d.a n.toNat y.d.cap))]) (fun _=>[ro m]) (fun k _=>∀(j:Nat) p,j<k→y.c.pairs[j]?=some p→¬White x.H p.key∧¬White x.H p.val) () (fun j c hj=>by omega) (fun k _ hk hv=>?_) (fun _ hw=>?_)
  ·obtain⟨p,gp⟩:∃p,y.c.pairs[k]?=some p:=⟨_,List.getElem?_eq_getElem (by omega)⟩
   obtain⟨f1,f2,_⟩:=h4.pairs i _ gc k p gp
   repeat' (first|refine xx ?_|(refine xy ?_ ?_<;>intro hb<;>try(exfalso;omega))|(refine k_L ?_;(refine k_c ?_;first|refine a_cq rfl (fun m hm=>white_g h f1 hm) ?_|refine a_cq rfl (fun m hm=>white_g h f2 hm) ?_))|fail)
   ·exact q_F fun h7=>((h7 ‹_› i _ gc).2 k p gp (by rw[←hn];omega)).1 ‹_›
   ·exact q_F fun h7=>((h7 ‹_› i _ gc).2 k p gp (by rw[←hn];omega)).2 ‹_›
   ·refine r_nx () (fun j q hj hq=>?_)
    by_cases e:j=k
    ·subst e;rw[gp]at hq;cases hq;exact⟨‹_›,‹_›⟩
    ·exact hv j q (by omega) hq
  ·repeat' (first|refine xx ?_|(refine xy ?_ ?_<;>intro hb<;>try(exfalso;omega))|fail)
   refine r_nx () (fun j c hj hc=>?_)
   by_cases e:j=i
   ·subst e;rw[gc]at hc;cases hc
    exact⟨hr,fun k p gp hk=>hw k p (by rw[←hn]at hk;omega) gp⟩
   ·exact hv j c (by omega) hc
 ·repeat' (first|refine xx ?_|fail)
  exact q_T fun hm i c hc=>hv i c (by have:=(List.getElem?_eq_some_iff.1 hc).1;omega) hc
end Go.Proofs.YtpleoapljeffiaaGreatDoor.E
