/- A part of the proof. Conditions: none. -/
import Derived.Test.YtpleoapljeffiaaDoorKL11
set_option maxRecDepth 100000
set_option linter.unusedVariables false
namespace Go.Proofs.YtpleoapljeffiaaDoor.E
open Go
noncomputable def e48:Env:=⟨Tryd.prog,[2,3,4,6,80],119,[(5,0),(9,0),(10,8),(11,11),(12,10)]⟩
abbrev zV(a0:Nat)(a1:Nat)(a2:Int):I:=⟨some a0,none,.call a1 [.const (.int .i64 a2)]⟩
abbrev qW(a0:Nat)(a1:Int)(a2:Int)(a3:Int)(a4:Int)(a5:Int)(a6:Int)(a7:Int)(a8:Nat)(a9:Nat)(a10:Nat)(a11:Nat)(a12:Int)(a13:Nat)(a14:Nat)(a15:Nat)(a16:Nat)(a17:Nat)(a18:Nat)(a19:Nat)(a20:Nat)(a21:Nat):I:=⟨some a0,none,.build [.int .i64 a1,.int .i64 a2,.int .i64 a3,.int .i64 a4,.int .i64 a5,.int .i64 a6,.int .i64 a7,.slice none a8 a9] [(a10,a11,.const (.int .i64 a12)),(a13,a14,.tmp a15),(a16,a17,.tmp a18),(a19,a20,.tmp a21)]⟩
abbrev qX(a0:Nat)(a1:Nat)(a2:Nat)(a3:Nat)(a4:Nat):I:=⟨some a0,none,.call a1 [.tmp a2,.tmp a3,.tmp a4]⟩
noncomputable def c48:C:=
 .seq (.reg [zN 2 0,zN 3 1,zm 4 0 0]) (.seq (.seq (.reg [z4 7 0 2,z5 8 1 7,z6 9 8,z4 10 2 9,z5 11 1 10,zA 12 11 1000000000,z3 13 12,⟨some 14,some (13,false),.load false 2 (.tmp 2)⟩,zT 15 13 3 3,zP 16 13 1 15,⟨some 17,some (13,false),.bin .add (.const (.int .i64 1)) (.tmp 16)⟩,⟨some 18,some (13,false),.call 57 [.tmp 14,.tmp 17]⟩,⟨some 19,some (13,false),.not (.tmp 18)⟩,zX 20 13 19]) (.cond (.tmp
 20) (.seq (.reg [zV 21 38 4,z7 2 4 21]) .ret) .skip)) (.seq (.reg [z8 22 2 2,zL 23 60 22,z3 5 23]) (.seq (.reg [z4 24 0 2,z5 25 1 24,z6 26 25,z4 27 2 26,z5 28 1 27,zG 29 28 1,z6 30 25,z4 31 2 30,z7 1 31 29]) (.seq (.hreg [2,3,4,80] [z4 32 2 3,z5 33 1 32,z4 34 0 2,z5 35 1 34,z6 36 35,z4 37 2 36,z5 38 1 37,z4 39 3 3,z5 40 1 39] (.alt ⟨some 41,none,.mkslice 6 48 [.int .i64 0,.int .i64 0,.int
 .i64 0,.int .i64 0,.int .i64 0,.int .i64 0] (.tmp 40) (.tmp 40)⟩ (.alt (qW 42 0 0 0 0 0 0 0 0 0 0 1 1 1 1 33 4 1 38 7 1 41) (.alt (za 6 0 0 0 0 0 0 0 0 0) (.alf (z7 8 6 42) (.done) (.none)) (.none)) (.alt (za 6 0 0 0 0 0 0 0 0 0) (.alt (qW 42 0 0 0 0 0 0 0 0 0 0 1 1 1 1 33 4 1 38 7 1 41) (.alf (z7 8 6 42) (.done) (.none)) (.none)) (.none))) (.alt (za 6 0 0 0 0 0 0 0 0 0) (.alt ⟨some 41,none,
 .mkslice 6 48 [.int .i64 0,.int .i64 0,.int .i64 0,.int .i64 0,.int .i64 0,.int .i64 0] (.tmp 40) (.tmp 40)⟩ (.alt (qW 42 0 0 0 0 0 0 0 0 0 0 1 1 1 1 33 4 1 38 7 1 41) (.alf (z7 8 6 42) (.done) (.none)) (.none)) (.none)) (.none)))) (.seq (.seq (.reg [z4 43 0 2,z5 44 1 43,zL 45 35 44,z3 46 45,zT 47 46 0 2,zP 48 46 1 47,zx 49 46 48,zT 50 46 5 49,zP 51 46 1 50,zy 52 46 51 3,zQ 53 46 52,zF 54 53 5,
 zI 55 53 0 2,zE 56 53 1 55,zW 57 53 56,zI 58 53 6 57,zE 59 53 1 58,⟨some 60,some (53,true),.bin .geq (.tmp 54) (.tmp 59)⟩,⟨some 61,some (46,false),.pick (.tmp 53) (.tmp 60) (.const (.bool false))⟩,zX 62 46 61]) (.cond (.tmp 62) (.reg [z4 63 5 6,zd 1 63 2]) .skip)) (.seq (.seq (.reg [z3 64 5,z4 65 0 2,z5 66 1 65,z6 67 66,z4 68 4 67,z5 69 1 68,zC 70 69,zk 71 64 70]) (.cond (.tmp 71) (.hreg [2,3,4,
 6] [z4 72 0 2,z5 73 1 72,z4 74 0 2,z5 75 1 74,z6 76 75,z4 77 4 76,z5 78 1 77,z8 79 8 6] (.alt ⟨some 80,none,.bslice true 1 8 [.int .i64 0,.int .i64 0,.int .i64 0,.int .i64 0,.int .i64 0,.int .i64 0,.int .i64 0,.slice none 0 0] [(0,8,.tmp 79)]⟩ (.alt ⟨some 81,none,.app 8 80 [.int .i64 0,.int .i64 0,.int .i64 0,.int .i64 0,.int .i64 0,.int .i64 0,.int .i64 0,.slice none 0 0] (.tmp 78) (.tmp 80)⟩
 (.alf (z6 82 73) (.alf (z4 83 4 82) (.alf (z7 1 83 81) (.done) (.none)) (.none)) (.none)) (.none)) (.none))) (.dreg 8 [z4 84 0 2,z5 85 1 84,z6 86 85,z4 87 4 86,z5 88 1 87,z3 89 5,z8 90 8 6,z9 91 8 88 89,z7 8 91 90]))) (.seq (.dreg 11 [z4 92 0 2,z5 93 1 92,z6 94 93,z4 95 1 94,z5 96 1 95,z4 97 3 3,z5 98 1 97,zf 99 1 98,zZ 100 96 99,z6 101 93,z4 102 1 101,z7 1 102 100]) (.seq (.dreg 10 [z4 103 0
 2,z5 104 1 103,z6 105 104,z4 106 3 105,z5 107 1 106,z4 108 1 3,z5 109 1 108,z3 110 5,zw 111 0 0 0 0 1 2 2 1 110,z9 112 3 107 109,z7 3 112 111]) (.seq (.reg [z8 113 2 2,z4 114 3 3,z5 115 1 114,zf 116 1 115,zK 117 58 113 116]) (.seq (.reg [zV 118 47 0,z7 2 4 118]) .ret))))))))))
theorem t48:Tryd.f48.body.bind (trC e48)=some c48:=by kernel_rfl
theorem r48:Tryd.f48.results.toList.mapM (trR Tryd.prog)=some [.cell 4 false 2]:=by kernel_rfl
theorem fn48{args:List Value}{M:Mem}{post:Value→Mem→Prop}(hl:args.length≤119)(h:VC e48 c48 (fnQ [.cell 4 false 2] post) (initS args 119) M):Fn Tryd.prog 48 args M post:=
 Fn.of' (E:=e48) Tryd.func48 t48 rfl r48 mixed hl h
noncomputable def e44:Env:=⟨Tryd.prog,[3,5,6],70,[(1,14),(5,16),(6,7),(7,10)]⟩
noncomputable def c44:C:=
 .seq (.reg [zN 3 0,zN 5 2,zm 6 0 0]) (.seq (.seq (.dreg 14 [z4 8 0 3,z5 9 1 8,z6 10 9,z4 11 4 10,z5 12 1 11,z3 13 1,z9 14 8 12 13,z4 15 7 14,z5 16 1 15,zC 17 16,z4 18 3 5,z5 19 1 18,zZ 20 17 19,zo 21 20 200]) (.cond (.tmp 21) (.seq (.reg [zV 22 38 5,z7 2 6 22]) .ret) .skip)) (.seq (.seq (.reg [z8 23 2 3,z4 24 3 5,z5 25 1 24,zK 26 57 23 25,zY 27 26]) (.cond (.tmp 27) (.seq (.reg [zV 28 38 4,
 z7 2 6 28]) .ret) .skip)) (.seq (.dreg 16 [z4 29 0 3,z5 30 1 29,z6 31 30,z4 32 4 31,z5 33 1 32,z4 34 0 3,z5 35 1 34,z6 36 35,z4 37 3 36,z5 38 1 37,z4 39 1 5,z5 40 1 39,z9 41 3 38 40,z4 42 2 41,z5 43 1 42,z9 44 8 33 43,z3 7 44]) (.seq (.dreg 7 [z3 45 7,z3 46 7,z6 47 46,z4 48 7 47,z5 49 1 48,z4 50 3 5,z5 51 1 50,⟨some 52,none,.appz 6 48 [.int .i64 0,.int .i64 0,.int .i64 0,.int .i64 0,.int .i64 0,
 .int .i64 0] (.tmp 49) (.tmp 51)⟩,z6 53 45,z4 54 7 53,z7 1 54 52]) (.seq (.dreg 10 [z4 55 0 3,z5 56 1 55,z6 57 56,z4 58 1 57,z5 59 1 58,z4 60 3 5,z5 61 1 60,zZ 62 59 61,z6 63 56,z4 64 1 63,z7 1 64 62]) (.seq (.reg [z8 65 2 3,z4 66 3 5,z5 67 1 66,zK 68 58 65 67]) (.seq (.reg [zV 69 47 0,z7 2 6 69]) .ret)))))))
theorem t44:Tryd.f44.body.bind (trC e44)=some c44:=by kernel_rfl
theorem r44:Tryd.f44.results.toList.mapM (trR Tryd.prog)=some [.cell 6 false 2]:=by kernel_rfl
theorem fn44{args:List Value}{M:Mem}{post:Value→Mem→Prop}(hl:args.length≤70)(h:VC e44 c44 (fnQ [.cell 6 false 2] post) (initS args 70) M):Fn Tryd.prog 44 args M post:=
 Fn.of' (E:=e44) Tryd.func44 t44 rfl r44 mixed hl h
noncomputable def e39:Env:=⟨Tryd.prog,[2,3,4],210,[(6,12),(15,12),(24,8),(26,7),(29,15),(31,15),(33,12),(34,6),(36,12),(37,6)]⟩
noncomputable def c39:C:=
 .seq (.reg [zN 2 0,zN 3 1,zm 4 0 0]) (.seq (.reg [zD 5 (-1)]) (.seq (.seq (.reg [z4 8 0 3,z5 9 1 8]) (.block 0 (.seq (.seq (.reg [zA 14 9 5,z3 13 14]) (.cond (.tmp 13) .skip (.reg [zA 15 9 6,z3 13 15]))) (.cond (.tmp 13) (.dreg 12 [z4 16 0 2,z5 17 1 16,z4 18 0 2,z5 19 1 18,z6 20 19,z4 21 3 20,z5 22 1 21,z4 23 2 3,z5 24 1 23,z9 25 3 22 24,z8 26 3 25,q5 27 40 17 26,z3 5 27]) (.seq (.seq (.reg
 [zA 29 9 7,z3 28 29]) (.cond (.tmp 28) .skip (.seq (.reg [zA 30 9 8,z3 28 30]) (.cond (.tmp 28) .skip (.seq (.reg [zA 31 9 9,z3 28 31]) (.cond (.tmp 28) .skip (.seq (.reg [zA 32 9 10,z3 28 32]) (.cond (.tmp 28) .skip (.seq (.reg [zA 33 9 11,z3 28 33]) (.cond (.tmp 28) .skip (.seq (.reg [zA 34 9 12,z3 28 34]) (.cond (.tmp 28) .skip (.seq (.reg [zA 35 9 16,z3 28 35]) (.cond (.tmp 28) .skip
 (.reg [zA 36 9 17,z3 28 36]))))))))))))))) (.cond (.tmp 28) (.dreg 12 [z4 37 0 2,z5 38 1 37,z4 39 0 2,z5 40 1 39,z6 41 40,z4 42 3 41,z5 43 1 42,z4 44 1 3,z5 45 1 44,z9 46 3 43 45,z8 47 3 46,q5 48 40 38 47,z3 5 48]) (.seq (.reg [z8 10 2 2,z8 11 5 3,zK 12 41 10 11,z7 2 4 12]) .ret))))))) (.seq (.seq (.reg [z3 49 5,qH 50 49 0]) (.cond (.tmp 50) (.seq (.reg [zV 51 38 2,z7 2 4 51]) .ret) .skip))
 (.seq (.reg [z4 52 0 2,z5 53 1 52,z6 54 53,z4 55 4 54,z5 56 1 55,z3 57 5,z9 58 8 56 57,z3 6 58]) (.seq (.seq (.reg [z4 59 0 3,z5 60 1 59]) (.block 1 (.seq (.seq (.reg [zA 62 60 5,z3 61 62]) (.cond (.tmp 61) .skip (.seq (.reg [zA 63 60 6,z3 61 63]) (.cond (.tmp 61) .skip (.seq (.reg [zA 64 60 7,z3 61 64]) (.cond (.tmp 61) .skip (.reg [zA 65 60 8,z3 61 65]))))))) (.cond (.tmp 61) (.seq (.seq
 (.dreg 8 [z4 66 3 3,z5 67 1 66,z3 68 6,z6 69 68,z4 70 7 69,z5 71 1 70,zC 72 71,qL 73 67 72]) (.cond (.tmp 73) (.seq (.reg [zV 74 38 3,z7 2 4 74]) .ret) .skip)) (.seq (.dreg 7 [z3 75 6,z6 76 75,z4 77 7 76,z5 78 1 77,z4 79 3 3,z5 80 1 79,z9 81 6 78 80,z3 7 81]) (.seq (.reg [z4 82 0 3,z5 83 1 82]) (.block 2 (.seq (.reg [zA 85 83 5,z3 84 85]) (.cond (.tmp 84) (.dreg 15 [z4 86 0 2,z5 87 1 86,z6
 88 87,z4 89 3 88,z5 90 1 89,z4 91 1 3,z5 92 1 91,z4 93 0 2,z5 94 1 93,z3 95 7,z6 96 95,z4 97 0 96,z8 98 3 97,q5 99 42 94 98,z9 100 3 90 92,z7 3 100 99]) (.seq (.reg [zA 102 83 6,z3 101 102]) (.cond (.tmp 101) (.dreg 15 [z4 103 0 2,z5 104 1 103,z6 105 104,z4 106 3 105,z5 107 1 106,z4 108 1 3,z5 109 1 108,z4 110 0 2,z5 111 1 110,z3 112 7,z6 113 112,z4 114 3 113,z8 115 3 114,q5 116 42 111 115,z9
 117 3 107 109,z7 3 117 116]) (.seq (.reg [zA 119 83 7,z3 118 119]) (.cond (.tmp 118) (.seq (.dreg 12 [z3 120 7,z4 121 0 2,z5 122 1 121,z6 123 122,z4 124 3 123,z5 125 1 124,z4 126 2 3,z5 127 1 126,z9 128 3 125 127,z8 129 3 128,z6 130 120,z4 131 0 130,z7 3 131 129]) (.dreg 6 [z4 132 0 2,z5 133 1 132,z3 134 7,z6 135 134,z4 136 0 135,z8 137 3 136,zK 138 43 133 137])) (.seq (.reg [zA 140 83 8,z3
 139 140]) (.cond (.tmp 139) (.seq (.dreg 12 [z3 141 7,z4 142 0 2,z5 143 1 142,z6 144 143,z4 145 3 144,z5 146 1 145,z4 147 2 3,z5 148 1 147,z9 149 3 146 148,z8 150 3 149,z6 151 141,z4 152 3 151,z7 3 152 150]) (.dreg 6 [z4 153 0 2,z5 154 1 153,z3 155 7,z6 156 155,z4 157 3 156,z8 158 3 157,zK 159 43 154 158])) .skip)))))))))))) (.seq (.reg [zA 161 60 9,z3 160 161]) (.cond (.tmp 160) (.seq (.reg [
 z8 162 2 2,z3 163 5,z8 164 5 3,qX 165 44 162 163 164,z7 2 4 165]) .ret) (.seq (.reg [zA 167 60 10,z3 166 167]) (.cond (.tmp 166) (.reg [z8 168 2 2,z3 169 5,z4 170 3 3,z5 171 1 170,qX 172 45 168 169 171]) (.seq (.reg [zA 174 60 11,z3 173 174]) (.cond (.tmp 173) (.reg [z3 175 6,z4 176 3 3,z5 177 1 176,z6 178 175,z4 179 2 178,z7 1 179 177]) (.seq (.reg [zA 181 60 12,z3 180 181]) (.cond (.tmp
 180) (.seq (.reg [z3 182 6,z4 183 3 3,z5 184 1 183,z6 185 182,z4 186 3 185,z7 1 186 184]) (.seq (.reg [z4 187 3 3,z5 188 1 187,zA 189 188 1]) (.cond (.tmp 189) (.reg [z4 190 0 2,z5 191 1 190,z3 192 5,zK 193 46 191 192]) .skip))) (.seq (.reg [zA 195 60 16,z3 194 195]) (.cond (.tmp 194) (.seq (.reg [z3 196 6,z6 197 196,z4 198 1 197,z5 199 1 198,zL 200 47 199,z7 2 4 200]) .ret) (.seq (.reg [zA
 202 60 17,z3 201 202]) (.cond (.tmp 201) (.seq (.reg [z3 203 6,z6 204 203,z4 205 7 204,z5 206 1 205,zC 207 206,zL 208 47 207,z7 2 4 208]) .ret) .skip)))))))))))))))) (.seq (.reg [zV 209 47 0,z7 2 4 209]) .ret))))))
theorem t39:Tryd.f39.body.bind (trC e39)=some c39:=by kernel_rfl
theorem r39:Tryd.f39.results.toList.mapM (trR Tryd.prog)=some [.cell 4 false 2]:=by kernel_rfl
theorem fn39{args:List Value}{M:Mem}{post:Value→Mem→Prop}(hl:args.length≤210)(h:VC e39 c39 (fnQ [.cell 4 false 2] post) (initS args 210) M):Fn Tryd.prog 39 args M post:=
 Fn.of' (E:=e39) Tryd.func39 t39 rfl r39 mixed hl h
noncomputable def e41:Env:=⟨Tryd.prog,[2,3,4],226,[(5,11),(7,9),(9,17),(11,19),(14,11),(16,11),(18,11),(25,9),(28,10),(31,0),(33,0),(40,0)]⟩
noncomputable def c41:C:=
 .seq (.reg [zN 2 0,zN 3 1,zm 4 0 0]) (.seq (.seq (.reg [z4 8 0 3,z5 9 1 8]) (.block 0 (.seq (.reg [zA 11 9 1,z3 10 11]) (.cond (.tmp 10) (.seq (.reg [z8 12 2 2,z8 13 5 3,zK 14 48 12 13,z7 2 4 14]) .ret) (.seq (.reg [zA 16 9 2,z3 15 16]) (.cond (.tmp 15) (.dreg 11 [z4 17 0 2,z5 18 1 17,z6 19 18,z4 20 3 19,z5 21 1 20,z4 22 1 3,z5 23 1 22,z4 24 4 3,z5 25 1 24,zw 26 0 0 0 0 1 1 1 1 25,z9 27 3
 21 23,z7 3 27 26]) (.seq (.reg [zA 29 9 3,z3 28 29]) (.cond (.tmp 28) (.dreg 9 [z4 30 0 2,z5 31 1 30,z6 32 31,z4 33 3 32,z5 34 1 33,z4 35 1 3,z5 36 1 35,⟨some 37,none,.build [.int .i64 0,.int .i64 0,.int .i64 0] []⟩,z9 38 3 34 36,z7 3 38 37]) (.seq (.reg [zA 40 9 4,z3 39 40]) (.cond (.tmp 39) (.dreg 17 [z4 41 0 2,z5 42 1 41,z6 43 42,z4 44 3 43,z5 45 1 44,z4 46 1 3,z5 47 1 46,z4 48 0 2,z5 49 1
 48,z6 50 49,z4 51 3 50,z5 52 1 51,z4 53 2 3,z5 54 1 53,z9 55 3 52 54,z8 56 3 55,z9 57 3 45 47,z7 3 57 56]) (.seq (.reg [zA 59 9 13,z3 58 59]) (.cond (.tmp 58) (.seq (.dreg 19 [z4 60 0 2,z5 61 1 60,z6 62 61,z4 63 3 62,z5 64 1 63,z4 65 1 3,z5 66 1 65,z9 67 3 64 66,z8 68 3 67,z4 69 0 2,z5 70 1 69,z6 71 70,z4 72 3 71,z5 73 1 72,z4 74 2 3,z5 75 1 74,z9 76 3 73 75,z8 77 3 76,⟨some 78,none,.eqA false
 3 (.tmp 68) (.tmp 77)⟩]) (.cond (.tmp 78) (.seq (.reg [zV 79 47 1,z7 2 4 79]) .ret) .skip)) (.seq (.reg [zA 81 9 14,z3 80 81]) (.cond (.tmp 80) (.seq (.dreg 11 [z4 82 0 2,z5 83 1 82,z6 84 83,z4 85 3 84,z5 86 1 85,z4 87 1 3,z5 88 1 87,z9 89 3 86 88,z4 90 0 89,z5 91 1 90,qQ 92 47 91,z7 2 4 92]) .ret) (.seq (.reg [zA 94 9 15,z3 93 94]) (.cond (.tmp 93) (.seq (.seq (.dreg 11 [z4 95 0 2,z5 96 1
 95,z6 97 96,z4 98 3 97,z5 99 1 98,z4 100 1 3,z5 101 1 100,z9 102 3 99 101,z4 103 0 102,z5 104 1 103,zz 105 104 1]) (.cond (.tmp 105) (.seq (.reg [zV 106 38 2,z7 2 4 106]) .ret) .skip)) (.seq (.dreg 11 [z4 107 0 2,z5 108 1 107,z6 109 108,z4 110 3 109,z5 111 1 110,z4 112 1 3,z5 113 1 112,z9 114 3 111 113,z4 115 1 114,z5 116 1 115,qV 117 0 0 1 1 116,z7 2 4 117]) .ret)) (.seq (.reg [zA 119 9 18,z3
 118 119]) (.cond (.tmp 118) (.seq (.reg [z4 121 0 2,z5 122 1 121,zL 123 49 122,z3 120 123,⟨some 124,none,.ext (.tmp 120) 0⟩,⟨some 125,none,.ext (.tmp 120) 1⟩,z3 5 124,z3 6 125]) (.seq (.reg [z3 126 6,zL 127 47 126,z7 2 4 127]) .ret)) (.seq (.reg [zA 129 9 19,z3 128 129]) (.cond (.tmp 128) (.seq (.reg [z4 130 0 2,z5 131 1 130,zL 132 50 131,z3 7 132]) (.seq (.seq (.reg [z3 133 7,qH 134 133 0])
 (.cond (.tmp 134) (.seq (.dreg 9 [z4 135 0 2,z5 136 1 135,z6 137 136,z4 138 3 137,z5 139 1 138,z4 140 1 3,z5 141 1 140,⟨some 142,none,.build [.int .i64 0,.int .i64 0,.int .i64 0] []⟩,z9 143 3 139 141,z7 3 143 142]) (.seq (.reg [zV 144 47 0,z7 2 4 144]) .ret)) .skip)) (.seq (.reg [z4 145 0 2,z5 146 1 145,z6 147 146,z4 148 4 147,z5 149 1 148,z3 150 7,z9 151 8 149 150,z4 152 3 151,zd 1 152 3])
 (.seq (.dreg 10 [z4 153 0 2,z5 154 1 153,z6 155 154,z4 156 3 155,z5 157 1 156,z4 158 1 3,z5 159 1 158,z3 160 7,zw 161 0 0 0 0 1 2 2 1 160,z9 162 3 157 159,z7 3 162 161]) (.seq (.reg [zV 163 47 1,z7 2 4 163]) .ret))))) (.seq (.reg [zA 165 9 20,z3 164 165]) (.cond (.tmp 164) (.seq (.hreg [2,3,4] [z4 166 0 2,z5 167 1 166,z4 168 0 2,z5 169 1 168] (.alt (zL 170 52 169) (.alt (zK 171 51 167 170)
 (.alt (zL 172 47 171) (.alf (z7 2 4 172) (.done) (.none)) (.none)) (.none)) (.none))) .ret) (.seq (.reg [zA 174 9 21,z3 173 174]) (.cond (.tmp 173) (.seq (.hreg [2,3,4] [z4 175 0 2,z5 176 1 175,z4 177 0 2,z5 178 1 177] (.alt (zL 179 53 178) (.alt (zK 180 51 176 179) (.alt (zL 181 47 180) (.alf (z7 2 4 181) (.done) (.none)) (.none)) (.none)) (.none))) .ret) (.seq (.reg [zA 183 9 22,z3 182 183])
 (.cond (.tmp 182) (.seq (.reg [z4 184 1 2,z5 185 1 184,zY 186 185,z3 187 186,zI 188 187 3 3,zE 189 187 1 188,⟨some 190,some (187,true),.bin .gtr (.tmp 189) (.const (.int .i64 0))⟩,zJ 191 187 190]) (.cond (.tmp 191) (.seq (.reg [z4 192 0 2,z5 193 1 192,zL 194 54 193]) (.reg [z4 195 0 2,z5 196 1 195,z4 197 3 3,z5 198 1 197,zK 199 55 196 198])) .skip)) (.seq (.reg [zA 201 9 23,z3 200 201])
 (.cond (.tmp 200) (.seq (.reg [z4 202 1 2,z5 203 1 202,zY 204 203]) (.cond (.tmp 204) (.hreg [2,3,4] [z4 205 0 2,z5 206 1 205,z4 207 0 2,z5 208 1 207,z4 209 2 3,z5 210 1 209,z4 211 3 3,z5 212 1 211,z6 213 206,z4 214 9 213] (.alt (z7 1 214 210) (.alf (z6 215 208) (.alf (z4 216 10 215) (.alf (z7 1 216 212) (.done) (.none)) (.none)) (.none)) (.none))) .skip)) (.seq (.reg [zA 218 9 24,z3 217 218])
 (.cond (.tmp 217) (.seq (.reg [z4 219 1 2,z5 220 1 219,zY 221 220]) (.cond (.tmp 221) (.reg [z4 222 0 2,z5 223 1 222,zL 224 56 223]) .skip)) .skip)))))))))))))))))))))))))))))) (.seq (.reg [zV 225 47 0,z7 2 4 225]) .ret))
theorem t41:Tryd.f41.body.bind (trC e41)=some c41:=by kernel_rfl
theorem r41:Tryd.f41.results.toList.mapM (trR Tryd.prog)=some [.cell 4 false 2]:=by kernel_rfl
theorem fn41{args:List Value}{M:Mem}{post:Value→Mem→Prop}(hl:args.length≤226)(h:VC e41 c41 (fnQ [.cell 4 false 2] post) (initS args 226) M):Fn Tryd.prog 41 args M post:=
 Fn.of' (E:=e41) Tryd.func41 t41 rfl r41 mixed hl h
noncomputable def e27:Env:=⟨Tryd.prog,[2,3,4],12,[]⟩
noncomputable def c27:C:=
 .seq (.reg [zN 2 0,zN 3 1,zm 4 0 0]) (.seq (.seq (.reg [z8 5 5 3,zL 6 37 5,zY 7 6]) (.cond (.tmp 7) (.seq (.reg [zV 8 38 1,z7 2 4 8]) .ret) .skip)) (.seq (.reg [z8 9 2 2,z8 10 5 3,zK 11 39 9 10,z7 2 4 11]) .ret))
theorem t27:Tryd.f27.body.bind (trC e27)=some c27:=by kernel_rfl
theorem r27:Tryd.f27.results.toList.mapM (trR Tryd.prog)=some [.cell 4 false 2]:=by kernel_rfl
theorem fn27{args:List Value}{M:Mem}{post:Value→Mem→Prop}(hl:args.length≤12)(h:VC e27 c27 (fnQ [.cell 4 false 2] post) (initS args 12) M):Fn Tryd.prog 27 args M post:=
 Fn.of' (E:=e27) Tryd.func27 t27 rfl r27 mixed hl h
end Go.Proofs.YtpleoapljeffiaaDoor.E
set_option linter.unusedSimpArgs false
set_option maxHeartbeats 8000000
namespace Go.Proofs.YtpleoapljeffiaaDoor.E
open Go
open Classical
theorem place_q{m:Mem}{a:Nat}{x:HX}(h:Has m (hp a x)):Qt Tryd.prog 60 [eV a] m (.int .i64 (frG x.H x.xs.length)):=by
 have hb0:=h.lens
 have hl:=x.len
 have hnc:x.hdr.nc=x.xs.length:=rfl
 refine qt_of (fnA_of (fun h=>fn60 (by simp) h) ?_)
 obtain⟨f1,f2,f3,f4⟩:=frG_ok x.H x.xs.length
 repeat' (first
  |(refine k_L ?_;first|refine a_p rfl ?_|(refine k_l ?_;refine g_l rfl ?_)|(refine k_bx ?_;refine a_bx rfl rfl ?_))
  |refine a_n ?_
  |(refine k_V ?_;first|refine v_seq ?_|refine v_reg ?_|refine v_ct rfl ?_)
  |refine s_n ?_)
 refine g_range x.xs.length (fun _:Unit=>[(1,.box [ptr a,.bool false]),(12,.v (.slice x.cd.a x.xs.length x.cd.cap))]) (fun _=>[ro m]) (fun i _=>∀j:Nat,j<i→(x.H.getC j).state≠0) () (fun j hj=>by omega) (fun i _ hi hv=>?_) (fun _ hv=>?_)
 ·obtain⟨y,gy,gc⟩:=HX.at hi
  have gk:=HX.gc gy
  repeat' (first
   |(refine k_L ?_;first|refine a_p rfl ?_|(refine k_i ?_;refine g_i rfl rfl ?_)|(refine k_ls ?_;refine g_ls rfl ?_)|(refine k_st ?_;refine g_sw rfl rfl rfl rfl (Nat.le_of_ble_eq_true rfl) ?_)|(refine k_al ?_;refine a_al ?_))
   |refine a_n ?_
   |(refine k_V ?_;first|refine v_seq ?_|refine v_reg ?_|refine v_ret ?_|refine v_skip ?_|(refine v_cd rfl (fun hb=>?_) (fun hb=>?_)<;>try(exfalso;omega)))
   |refine s_r ?_
   |refine r_rt ?_
   |refine sk_zero ?_
   |refine sk_succ ?_
   |refine wk_nil ?_
   |refine wk_cons ?_)
  ·refine fa_q (by simp) (fun _ _=>rfl) ?_
   congr 1
   rcases Int.lt_or_le (frG x.H x.xs.length) i with e|e
   ·have h1:=(f3 (by omega)).2
    have h2:=hv (frG x.H x.xs.length).toNat (by omega)
    rw[show(((frG x.H x.xs.length).toNat:Nat):Int)=frG x.H x.xs.length by omega]at h2
    exact absurd h1 h2
   ·rcases Int.lt_or_le i (frG x.H x.xs.length)with e2|e2
    ·exact absurd (by rw[gk];assumption) (f4 i hi e2)
    ·omega
  ·refine r_nx () (fun j hj=>?_)
   by_cases e:j=i
   ·subst e;rw[gk];assumption
   ·exact hv j (by omega)
 ·repeat' (first
   |(refine k_L ?_;first|refine a_p rfl ?_|(refine k_l ?_;refine g_l rfl ?_))
   |refine a_n ?_
   |(refine k_V ?_;first|refine v_seq ?_|refine v_reg ?_|refine v_ret ?_))
  refine fa_q (by simp) (fun _ _=>rfl) ?_
  congr 1
  rcases Int.lt_or_le (frG x.H x.xs.length) x.H.cells.length with e|e
  ·have h1:=(f3 e).2
   have h2:=hv (frG x.H x.xs.length).toNat (by omega)
   rw[show(((frG x.H x.xs.length).toNat:Nat):Int)=frG x.H x.xs.length by omega]at h2
   exact absurd h1 h2
  ·omega
theorem v_vib{E:Env}{a:C}{K:St→List Asr→Prop}{Q:X→St→List Asr→Prop}{S:St}{As:List Asr}(J:St→List Asr→Prop)(h:VA E a (seqA J Q) S As)(h2:∀S As,J S As→K S As):VA E a (seqA K Q) S As:=
 v_mono h fun x S As hq=>by cases x<;>first|exact h2 _ _ hq|exact hq
theorem cl_spl{cd:D}{ys:List CS}{i:Nat}{y:CS}{R:List Asr}(hi:ys[i]?=some y):Ent (clA cd ys::R) (slA 8 csv cd ys::slA 6 pv y.d y.c.pairs::prA (ys.eraseIdx i)::R):=cl_open.trans (Ent.cons (ent_of fun m hm=>by
 obtain⟨a,b,d,rfl,h1,h2⟩:=hm
 have:=pr_out hi h1
 obtain⟨c,e,d2,rfl,k1,k2⟩:=star2.1 this
 refine⟨c,e.un b,?_,un_assoc _ _ _,k1,e,b,(disj_un'.1 d).2,rfl,k2,h2⟩
 exact disj_un.2 ⟨d2,(disj_un'.1 d).1⟩))
theorem cl_joi{cd:D}{ys:List CS}{i:Nat}{y':CS}{R:List Asr}(hi:i<ys.length):Ent (slA 8 csv cd (ys.set i y')::slA 6 pv y'.d y'.c.pairs::prA (ys.eraseIdx i)::R) (clA cd (ys.set i y')::R):=(Ent.cons (ent_of fun m hm=>by
 obtain⟨c,r,d,rfl,k1,e,b,d2,rfl,k2,h2⟩:=hm
 obtain⟨d3,d4⟩:=disj_un.1 d
 refine⟨c.un e,b,disj_un'.2 ⟨d4,d2⟩,(un_assoc _ _ _).symm,pr_in hi (star2.2 ⟨c,e,d3,rfl,k1,k2⟩),h2⟩)).trans cl_close
def HX.bnp(x:HX):HX:={x with born:=x.born+1}
theorem make_a{a:Nat}{x:HX}{op n:Int}{ka kb kc:Nat}(h:Sound x.H)(ha:ka≤15)(hb:kb≤255)(hc:kc≤200):FnA Tryd.prog 48 [eV a,.agg #[.int .i64 op,.int .i64 ka,.int .i64 kb,.int .i64 kc,.int .i64 n]] (hp a x) (fun v As=>∃z:HX,v=an (doNew x.H ⟨op,ka,kb,kc,n⟩).code (doNew x.H ⟨op,ka,kb,kc,n⟩).num∧As=hp a z∧z.H=(doNew x.H ⟨op,ka,kb,kc,n⟩).heap):=by
 have hl:=x.len
 have e1:x.hdr.born=x.H.born:=rfl
 refine fnA_of (fun h=>fn48 (by simp) h) ?_
 obtain⟨f1,f2,f3,f4,f5,f6,f7⟩:=fits_ok h (1+kc)
 unfold doNew
 dsimp only
 by_cases c0:x.H.born=1000000000
 ·rw[if_pos c0]
  repeat' (first
   |(refine k_L ?_;first|refine a_p rfl ?_|(refine k_g ?_;first|refine a_gn rfl rfl ?_|(refine a_gd rfl (fun hb=>?_) (fun hb=>?_)<;>try(exfalso;omega)))|(refine k_l ?_;refine g_l rfl ?_)|(refine k_st ?_;refine g_sw rfl rfl rfl rfl (Nat.le_of_ble_eq_true rfl) ?_)|(refine k_al ?_;refine a_al ?_)|(refine k_bx ?_;refine a_bx rfl rfl ?_)|(refine k_c ?_;refine a_cq rfl (fun m hm=>codeE_q) ?_))
   |refine a_n ?_
   |(refine k_V ?_;first|refine v_seq ?_|refine v_reg ?_|refine v_ret ?_|refine v_ct rfl ?_)
   |refine s_r ?_
   |refine sk_zero ?_
   |refine sk_succ ?_
   |refine wk_nil ?_
   |refine wk_cons ?_)
  all_goals exact fa_r (fun _ _=>rfl) (Pm.ent pmt) ⟨x,rfl,rfl,rfl⟩
 ·rw[if_neg c0]
  generalize hF:x.H.fitsH (1+kc)=F at*
  have hbn:=f1.r1.born
  by_cases c2:F.used+(1+kc)≤F.room
  ·rw[if_pos c2]
   repeat' (first
    |(refine k_L ?_;first|(refine k_ad ?_;refine g_ad rfl rfl ?_)|refine a_p rfl ?_|(refine k_g ?_;first|refine a_gy rfl rfl ?_|(refine a_gd rfl (fun hb=>?_) (fun hb=>?_)<;>try(exfalso;omega)))|(refine k_l ?_;refine g_l rfl ?_)|(refine k_st ?_;refine g_sw rfl rfl rfl rfl (Nat.le_of_ble_eq_true rfl) ?_)|(refine k_al ?_;refine a_al ?_)|(refine k_bx ?_;refine a_bx rfl rfl ?_)|(refine k_c ?_;refine a_cq rfl (fun m hm=>codeE_q) ?_)|(refine g_c rfl (fits_a (x:=x) (u:=1+(kc:Int)) h (by omega)) (fun v As' hq=>?_);obtain⟨z,rfl,rfl,hz⟩:=hq;rw[hF]at hz;have zb:z.hdr.born=F.born:=congrArg Heap.born hz))
    |refine a_n ?_
    |(refine k_V ?_;first|refine v_seq ?_|refine v_reg ?_|refine v_ret ?_|refine v_skip ?_|(refine v_cnd rfl (fun hb=>?_) (fun hb=>?_)<;>try(exfalso;omega)))
    |refine s_r ?_
    |refine sk_zero ?_
    |refine sk_succ ?_
    |refine wk_nil ?_
    |refine wk_cons ?_)
   ·exfalso;rw[hF]at hb;omega
   subst hz
   have zl:=z.len
   have z16:z.regs.length=16:=f1.r1.regs
   have g3:=f1.r1.cells
   have g2:=f1.r1.room
   have ub:=f1.r3
   have un:=unitsN_nn z.H.cells
   unfold R3 at ub
   obtain⟨p0,p1,p2,p3⟩:=frG_ok z.H z.H.cells.length
   obtain⟨j,hj⟩:=Int.eq_ofNat_of_zero_le p0
   have ef:frG z.H z.xs.length=j:=by rw[←zl];exact hj
   have xph:z.bnp.hdr.phase=z.H.phase:=rfl
   have xha:z.bnp.hdr.hand=z.H.hand:=rfl
   have xnc:z.bnp.hdr.nc=z.xs.length:=rfl
   have xnr:z.bnp.hdr.nr=z.regs.length:=rfl
   have xus:z.bnp.hdr.used=z.H.used:=rfl
   have xxs:z.bnp.xs.length=z.xs.length:=rfl
   have hmk:Marking z.bnp.H↔Marking z.H:=Iff.rfl
   repeat' (first
    |(refine k_L ?_;first|(refine k_ad ?_;refine g_ad rfl rfl ?_)|refine a_p rfl ?_|(refine k_l ?_;refine g_l rfl ?_)|(refine k_st ?_;refine g_st rfl rfl rfl rfl ?_)|(refine k_c ?_;refine a_cq rfl (fun m hm=>qt_e (place_q (x:=z) (sep_has hm pmt)) (by rw[ef])) ?_))
    |refine a_n ?_
    |(refine k_V ?_;first|refine v_seq ?_|refine v_reg ?_))
   refine VA.ent (Pm.ent (fin z.bnp)) ?_
   refine v_vib (fun S As=>∃g:D,leA [(2,.box [ptr a,.bool false]),(3,.box [.int .i64 op,.int .i64 ka,.int .i64 kb,.int .i64 kc,.int .i64 n]),(4,.box [.int .i64 0,.int .i64 0]),(5,.v (.int .i64 j)),(6,.box [.int .i64 1,.int .i64 kb,.int .i64 0,.int .i64 0,.int .i64 (z.born+1),.int .i64 0,.int .i64 0,.slice g.a (List.replicate kc Pair.no).length g.cap])] S∧Ent As (slA 6 pv g (List.replicate kc Pair.no)::hp a z.bnp)) ?_ ?_
   ·refine v_hreg (Gs:=[slA 3 wv z.bnp.rd z.bnp.regs,clA z.bnp.cd z.bnp.xs,slA 1 iv z.bnp.gd z.bnp.gray]) [hdA a z.bnp.hdr] pmt ?_
    repeat' (first
     |(refine k_L ?_;first|refine a_p rfl ?_|(refine k_l ?_;refine g_l rfl ?_)|(refine k_st ?_;refine g_sw rfl rfl rfl rfl (Nat.le_of_ble_eq_true rfl) ?_)|(refine k_al ?_;refine a_al ?_)|(refine a_mk (f:=pv) (n:=(kc:Int)) (k:=(kc:Int)) Pair.no pv_len rfl rfl rfl (by omega) (by omega) (fun g hg=>?_)))
     |refine a_n ?_
     |refine s_n ?_
     |refine sk_zero ?_
     |refine sk_succ ?_
     |refine wk_nil ?_
     |refine wk_cons ?_
     |refine t_a ?_ t_n
     |refine t_f ?_ t_n
     |refine t_a ?_ ?_
     |refine t_d ?_
     |refine kl_1 rfl ?_
     |refine kl_0 ?_)
    all_goals exact⟨g,⟨rfl,rfl,rfl,rfl,(by rw[List.length_replicate];rfl),trivial⟩,Pm.ent pmt⟩
   rintro S As ⟨g,hS,hE⟩
   refine VA.ent hE (v_weak _ hS ?_)
   clear hS hE S As
   refine v_seq (v_vib (fun S As=>leA [(2,.box [ptr a,.bool false]),(3,.box [.int .i64 op,.int .i64 ka,.int .i64 kb,.int .i64 kc,.int .i64 n]),(4,.box [.int .i64 0,.int .i64 0]),(5,.v (.int .i64 j)),(6,.box [.int .i64 1,.int .i64 kb,.int .i64 0,.int .i64 0,.int .i64 (z.born+1),.int .i64 (newCol z.H j),.int .i64 0,.slice g.a (List.replicate kc Pair.no).length g.cap])] S∧Ent As (slA 6 pv g (List.replicate kc Pair.no)::hp a z.bnp)) ?_ ?_)
   ·repeat' (first
     |(refine k_L ?_;first|refine a_p rfl ?_|(refine k_g ?_;first|refine a_gy rfl rfl ?_|refine a_gn rfl rfl ?_|refine a_gu rfl ?_|(refine a_gd rfl (fun hb=>?_) (fun hb=>?_)<;>try(exfalso;omega)))|(refine k_l ?_;refine g_l rfl ?_)|(refine k_st ?_;refine g_sw rfl rfl rfl rfl (Nat.le_of_ble_eq_true rfl) ?_)|(refine k_c ?_;refine a_cq rfl (fun m hm=>qt_e (marking_q (x:=z.bnp.hs) (Has.ph (sep_has hm pmt))) (show Value.bool (decide (Marking z.bnp.hs.H))=.bool (decide (Marking z.H))from rfl)) ?_))
     |refine a_n ?_
     |(refine k_V ?_;first|refine v_seq ?_|refine v_reg ?_|refine v_skip ?_|refine v_ct rfl ?_|refine v_cf rfl ?_|(refine v_cd rfl (fun hb=>?_) (fun hb=>?_)<;>try(exfalso;omega)))
     |refine s_n ?_
     |refine sk_zero ?_
     |refine sk_succ ?_
     |refine wk_nil ?_
     |refine wk_cons ?_)
    all_goals refine⟨⟨rfl,rfl,rfl,rfl,?_,trivial⟩,Pm.ent pmt⟩
    all_goals first
     |(rw[show newCol z.H j=2 by unfold newCol;rw[if_pos];unfold Marking at*;omega];rfl)
     |(rw[show newCol z.H j=0 by unfold newCol;rw[if_neg];unfold Marking at*;omega];rfl)
   rintro S As ⟨hS,hE⟩
   refine VA.ent hE (v_weak _ hS ?_)
   clear hS hE S As
   generalize hy:(⟨Cell.fresh kb (z.born+1) (newCol z.H j) kc,g.a,g.cap⟩:CS)=yn
   obtain⟨w,gw⟩:∃w,z.bnp.regs[ka]?=some w:=⟨_,List.getElem?_eq_getElem (by show ka<z.regs.length;omega)⟩
   have hsl:slA 6 pv g (List.replicate kc Pair.no)=slA 6 pv yn.d yn.c.pairs:=by rw[←hy];rfl
   have hcol:0≤newCol z.H j:=by unfold newCol;split<;>omega
   by_cases hje:j=z.xs.length
   ·have hH:HX.H {z.bnp with xs:=z.xs++[yn],used:=z.used+(1+kc),regs:=z.regs.set ka ⟨2,0,j⟩}=z.H.newH (ka:Int).toNat kb (kc:Int).toNat:=by
     unfold Heap.newH
     rw[hj,Int.toNat_natCast,Int.toNat_natCast,Int.toNat_natCast]
     unfold addC
     rw[if_pos (by rw[zl];exact hje),←hy]
     unfold HX.H HX.bnp
     simp only[List.map_append,List.map_cons,List.map_nil,Heap.mk.injEq,true_and,and_true]
     omega
    repeat' (first
     |(refine k_L ?_;first|refine a_p rfl ?_|(refine k_l ?_;refine g_l rfl ?_))
     |refine a_n ?_
     |(refine k_V ?_;first|refine v_seq ?_|refine v_reg ?_|(refine v_cd rfl (fun hb=>?_) (fun hb=>?_)<;>try(exfalso;omega))))
    refine VA.ent (Bs:=[slA 8 csv z.bnp.cd z.bnp.xs,prA z.bnp.xs,slA 6 pv g (List.replicate kc Pair.no),slA 3 wv z.bnp.rd z.bnp.regs,slA 1 iv z.bnp.gd z.bnp.gray,hdA a z.bnp.hdr]) ?_ ?_
    ·exact(Pm.ent (As1:=[clA z.bnp.cd z.bnp.xs,slA 6 pv g (List.replicate kc Pair.no),hdA a z.bnp.hdr,slA 3 wv z.bnp.rd z.bnp.regs,slA 1 iv z.bnp.gd z.bnp.gray]) pmt).trans (cl_open.trans (Pm.ent pmt))
    refine v_hreg (Gs:=[slA 8 csv z.bnp.cd z.bnp.xs,prA z.bnp.xs,slA 6 pv g (List.replicate kc Pair.no),slA 3 wv z.bnp.rd z.bnp.regs,slA 1 iv z.bnp.gd z.bnp.gray]) [hdA a z.bnp.hdr] ⟨fun m hm=>hm⟩ ?_
    repeat' (first
     |(refine k_L ?_;first|refine a_p rfl ?_|(refine k_l ?_;refine g_l rfl ?_)|(refine k_bl ?_;refine a_bl rfl ?_))
     |refine a_n ?_
     |refine t_a ?_ t_n
     |refine kl_1 rfl ?_
     |refine kl_0 ?_)
    refine g_ap yn csv_len rfl rfl (by rw[←hy];rfl) (by omega) (hb:=by omega) (fun cd'=>?_)
    repeat' (first
     |(refine k_L ?_;first|(refine k_ad ?_;refine g_ad rfl rfl ?_)|(refine k_l ?_;refine g_l rfl ?_)|(refine k_i ?_;refine g_i rfl rfl ?_)|(refine k_st ?_;refine g_st rfl rfl rfl rfl ?_)|(refine b_w ⟨2,0,j⟩ rfl ?_)|(refine b_p rfl ?_))
     |refine a_n ?_
     |(refine k_V ?_;first|refine v_seq ?_|refine v_reg ?_|refine v_dreg ?_)
     |refine t_f ?_ t_n
     |refine t_d ?_
     |refine kl_1 rfl ?_
     |refine kl_0 ?_)
    refine LA.ent (Bs:=hp a ({z.bnp with xs:=z.xs++[yn],cd:=cd',used:=z.used+(1+kc),regs:=z.regs.set ka ⟨2,0,j⟩}:HX)) ?_ ?_
    ·rw[hsl]
     refine((Pm.ent (As1:=[slA 8 csv cd' (z.xs++[yn]),prA z.xs,slA 6 pv yn.d yn.c.pairs,hdA a _,slA 3 wv z.rd (z.regs.set ka ⟨2,0,j⟩),slA 1 iv z.gd z.gray]) pmt).trans (cl_snoc (y:=yn))).trans (Pm.ent (fin ({z.bnp with xs:=z.xs++[yn],cd:=cd',used:=z.used+(1+kc),regs:=z.regs.set ka ⟨2,0,j⟩}:HX) (h1:=by simp[HX.hdr,Hdr.s_room,Hdr.s_used,Hdr.s_born,Hdr.s_phase,Hdr.s_hand,Hdr.s_sub,Hdr.s_per,Hdr.s_start,Hdr.s_rounds,Hdr.s_forced,Hdr.s_rd,Hdr.s_cd,Hdr.s_gd,HX.bnp]) (h2:=by simp[HX.hdr,Hdr.s_room,Hdr.s_used,Hdr.s_born,Hdr.s_phase,Hdr.s_hand,Hdr.s_sub,Hdr.s_per,Hdr.s_start,Hdr.s_rounds,Hdr.s_forced,Hdr.s_rd,Hdr.s_cd,Hdr.s_gd,HX.bnp]) (e1:=by simp[HX.hdr,Hdr.s_room,Hdr.s_used,Hdr.s_born,Hdr.s_phase,Hdr.s_hand,Hdr.s_sub,Hdr.s_per,Hdr.s_start,Hdr.s_rounds,Hdr.s_forced,Hdr.s_rd,Hdr.s_cd,Hdr.s_gd,HX.bnp])))
    refine g_c rfl (pace_a (x:=({z.bnp with xs:=z.xs++[yn],cd:=cd',used:=z.used+(1+kc),regs:=z.regs.set ka ⟨2,0,j⟩}:HX)) (u:=1+(kc:Int)) (by show Sound (HX.H {z.bnp with xs:=z.xs++[yn],used:=z.used+(1+kc),regs:=z.regs.set ka ⟨2,0,j⟩});rw[hH];exact new_sound f1 (by omega) (by omega) (by omega) (by omega)) (by omega)) (fun v' As' hq=>?_)
    obtain⟨r,rfl,hr⟩:=hq
    repeat' (first
     |(refine k_L ?_;first|(refine k_st ?_;refine g_sw rfl rfl rfl rfl (Nat.le_of_ble_eq_true rfl) ?_)|(refine k_c ?_;refine a_cq rfl (fun m hm=>numE_q) ?_))
     |refine a_n ?_
     |(refine k_V ?_;first|refine v_seq ?_|refine v_reg ?_|refine v_ret ?_)
     |refine sk_zero ?_
     |refine sk_succ ?_
     |refine wk_nil ?_
     |refine wk_cons ?_)
    exact fa_r (fun _ _=>rfl) (Pm.ent pmt) ⟨r,rfl,rfl,by rw[hr];exact congrArg (fun K=>K.paceH (1+(kc:Int))) hH⟩
   ·obtain⟨y0,gy0,gc0⟩:=HX.at (x:=z) (i:=j) (by omega)
    have gy0':z.bnp.xs[j]?=some y0:=gy0
    have hH:HX.H {z.bnp with xs:=z.xs.set j yn,used:=z.used+(1+kc),regs:=z.regs.set ka ⟨2,0,j⟩}=z.H.newH (ka:Int).toNat kb (kc:Int).toNat:=by
     unfold Heap.newH
     rw[hj,Int.toNat_natCast,Int.toNat_natCast,Int.toNat_natCast]
     unfold addC
     rw[if_neg (by rw[zl];exact hje),←hy]
     unfold HX.H HX.bnp
     simp only[List.map_set,Heap.mk.injEq,true_and,and_true]
     omega
    repeat' (first
     |(refine k_L ?_;first|refine a_p rfl ?_|(refine k_l ?_;refine g_l rfl ?_)|(refine k_i ?_;refine g_i rfl rfl ?_))
     |refine a_n ?_
     |(refine k_V ?_;first|refine v_seq ?_|refine v_reg ?_|refine v_dreg ?_|(refine v_cd rfl (fun hb=>?_) (fun hb=>?_)<;>try(exfalso;omega))))
    refine LA.ent (Bs:=[slA 8 csv z.bnp.cd z.bnp.xs,slA 6 pv y0.d y0.c.pairs,prA (z.bnp.xs.eraseIdx j),slA 6 pv g (List.replicate kc Pair.no),hdA a z.bnp.hdr,slA 3 wv z.bnp.rd z.bnp.regs,slA 1 iv z.bnp.gd z.bnp.gray]) ?_ ?_
    ·exact(Pm.ent (As1:=[clA z.bnp.cd z.bnp.xs,slA 6 pv g (List.replicate kc Pair.no),hdA a z.bnp.hdr,slA 3 wv z.bnp.rd z.bnp.regs,slA 1 iv z.bnp.gd z.bnp.gray]) pmt).trans ((cl_spl gy0').trans (Pm.ent pmt))
    refine a_st rfl rfl rfl rfl (up_h (up_sl (j:=0) (e':=yn) csv_len gy0' (by simp[Value.cells]) (by rw[←hy];rfl))) ?_
    repeat' (first
     |(refine k_L ?_;first|(refine k_ad ?_;refine g_ad rfl rfl ?_)|(refine k_l ?_;refine g_l rfl ?_)|(refine k_i ?_;refine g_i rfl rfl ?_)|(refine k_st ?_;refine g_st rfl rfl rfl rfl ?_)|(refine b_w ⟨2,0,j⟩ rfl ?_)|(refine b_p rfl ?_))
     |refine a_n ?_
     |(refine k_V ?_;first|refine v_seq ?_|refine v_reg ?_|refine v_dreg ?_))
    refine LA.ent (Bs:=hp a ({z.bnp with xs:=z.xs.set j yn,used:=z.used+(1+kc),regs:=z.regs.set ka ⟨2,0,j⟩}:HX)) ?_ ?_
    ·rw[hsl]
     refine((Pm.ent (As1:=[slA 8 csv z.cd (z.xs.set j yn),slA 6 pv yn.d yn.c.pairs,prA (z.xs.eraseIdx j),hdA a _,slA 3 wv z.rd (z.regs.set ka ⟨2,0,j⟩),slA 1 iv z.gd z.gray]) pmt).trans (cl_joi (y':=yn) (by omega))).trans (Pm.ent (fin ({z.bnp with xs:=z.xs.set j yn,used:=z.used+(1+kc),regs:=z.regs.set ka ⟨2,0,j⟩}:HX) (h1:=by simp[HX.hdr,Hdr.s_room,Hdr.s_used,Hdr.s_born,Hdr.s_phase,Hdr.s_hand,Hdr.s_sub,Hdr.s_per,Hdr.s_start,Hdr.s_rounds,Hdr.s_forced,Hdr.s_rd,Hdr.s_cd,Hdr.s_gd,HX.bnp]) (h2:=by simp[HX.hdr,Hdr.s_room,Hdr.s_used,Hdr.s_born,Hdr.s_phase,Hdr.s_hand,Hdr.s_sub,Hdr.s_per,Hdr.s_start,Hdr.s_rounds,Hdr.s_forced,Hdr.s_rd,Hdr.s_cd,Hdr.s_gd,HX.bnp]) (e1:=by simp[HX.hdr,Hdr.s_room,Hdr.s_used,Hdr.s_born,Hdr.s_phase,Hdr.s_hand,Hdr.s_sub,Hdr.s_per,Hdr.s_start,Hdr.s_rounds,Hdr.s_forced,Hdr.s_rd,Hdr.s_cd,Hdr.s_gd,HX.bnp])))
    refine g_c rfl (pace_a (x:=({z.bnp with xs:=z.xs.set j yn,used:=z.used+(1+kc),regs:=z.regs.set ka ⟨2,0,j⟩}:HX)) (u:=1+(kc:Int)) (by show Sound (HX.H {z.bnp with xs:=z.xs.set j yn,used:=z.used+(1+kc),regs:=z.regs.set ka ⟨2,0,j⟩});rw[hH];exact new_sound f1 (by omega) (by omega) (by omega) (by omega)) (by omega)) (fun v' As' hq=>?_)
    obtain⟨r,rfl,hr⟩:=hq
    repeat' (first
     |(refine k_L ?_;first|(refine k_st ?_;refine g_sw rfl rfl rfl rfl (Nat.le_of_ble_eq_true rfl) ?_)|(refine k_c ?_;refine a_cq rfl (fun m hm=>numE_q) ?_))
     |refine a_n ?_
     |(refine k_V ?_;first|refine v_seq ?_|refine v_reg ?_|refine v_ret ?_)
     |refine sk_zero ?_
     |refine sk_succ ?_
     |refine wk_nil ?_
     |refine wk_cons ?_)
    exact fa_r (fun _ _=>rfl) (Pm.ent pmt) ⟨r,rfl,rfl,by rw[hr];exact congrArg (fun K=>K.paceH (1+(kc:Int))) hH⟩
  ·rw[if_neg c2]
   repeat' (first
    |(refine k_L ?_;first|(refine k_ad ?_;refine g_ad rfl rfl ?_)|refine a_p rfl ?_|(refine k_g ?_;first|refine a_gy rfl rfl ?_|(refine a_gd rfl (fun hb=>?_) (fun hb=>?_)<;>try(exfalso;omega)))|(refine k_l ?_;refine g_l rfl ?_)|(refine k_st ?_;refine g_sw rfl rfl rfl rfl (Nat.le_of_ble_eq_true rfl) ?_)|(refine k_al ?_;refine a_al ?_)|(refine k_bx ?_;refine a_bx rfl rfl ?_)|(refine k_c ?_;refine a_cq rfl (fun m hm=>codeE_q) ?_)|(refine g_c rfl (fits_a (x:=x) (u:=1+(kc:Int)) h (by omega)) (fun v As' hq=>?_);obtain⟨z,rfl,rfl,hz⟩:=hq))
    |refine a_n ?_
    |(refine k_V ?_;first|refine v_seq ?_|refine v_reg ?_|refine v_ret ?_|refine v_skip ?_|(refine v_cnd rfl (fun hb=>?_) (fun hb=>?_)<;>try(exfalso;omega)))
    |refine s_r ?_
    |refine sk_zero ?_
    |refine sk_succ ?_
    |refine wk_nil ?_
    |refine wk_cons ?_)
   all_goals first
    |(exfalso;rw[hF]at hb;omega)
    |exact fa_r (fun _ _=>rfl) (Pm.ent pmt) ⟨z,rfl,rfl,by rw[hz,hF]⟩
    |trace_state
theorem Hue.symm{H K:Heap}(h:Hue H K):Hue K H:=
 ⟨h.len.symm,fun j=>by rw[h.cell j];rfl,h.regs.symm,h.room.symm,h.born.symm,h.per.symm,h.start.symm,h.forced.symm⟩
theorem Hue.back{H K:Heap}(h:Hue H K)(hd:∀j:Int,Doomed K j→Doomed H j):∀b n,Node H b n→Node K b n:=(h.symm.iso hd).node
theorem enter_back{H:Heap}{p:Int}(hp:p≠3):∀b n,Node H b n→Node (H.enterH p) b n:=
 (hue_same rfl rfl rfl rfl rfl rfl rfl:Hue H (H.enterH p)).back fun j h=>absurd h.1 hp
theorem roots_back{H:Heap}(h:Sound H)(hp:H.phase=1):∀b n,Node H b n→Node H.rootsU b n:=by
 have h0:=h.r1.hand
 unfold Heap.rootsU
 split
 ·exact enter_back (by omega)
 ·refine Hue.back ?_ (fun j hd=>?_)
  ·split
   ·exact(hue_shadeH (by omega)).trans (hue_same rfl rfl rfl rfl rfl rfl rfl)
   ·exact hue_same rfl rfl rfl rfl rfl rfl rfl
  ·have:(if Root (H.getC H.hand)then H.shadeH H.hand.toNat else H).phase=3:=hd.1
   split at this
   ·have e:(H.shadeH H.hand.toNat).phase=H.phase:=by unfold Heap.shadeH;split<;>rfl
    omega
   ·omega
theorem mark_back{H:Heap}(h:Sound H)(hp:H.phase=2)(hn:H.markU.phase≠3):∀b n,Node H b n→Node H.markU b n:=by
 have hi:=mark_iso h hp
 revert hn
 unfold Heap.markU
 cases hg:H.gray with
 |nil=>
  simp only
  split
  ·intro hn
   exact(hue_shadeL H.regs H (fun w hw=>(reg_used h.r4 hw).1)).back (fun j hd=>absurd hd.1 hn)
  ·intro hn;exact absurd rfl hn
 |cons g r=>
  simp only
  obtain⟨g1,g2,g3⟩:=h.r5.mark (.inr hp)
  obtain⟨b0,b1,b2,b3⟩:=g2 g (by rw[hg];simp)
  cases hs:(H.getC g).pairs[H.sub.toNat]? with
  |none=>
   simp only
   intro hn
   refine Hue.back (hue_set (i:=g.toNat) (k:=2) (by omega) ?_ rfl rfl rfl rfl rfl rfl) (fun j hd=>absurd hd.1 hn)
   rw[show((g.toNat:Nat):Int)=g by omega];rfl
  |some p=>
   simp only
   intro hn
   obtain⟨⟨k1,k2⟩,v1,v2⟩:=markP h hp hg hs
   have a:=hue_shadeW k1
   have b:=hue_shadeW (H:=H.shadeW p.key) (w:=p.val) (formed_len a.len v1)
   exact Hue.back (Hue.trans (a.trans b) (hue_same rfl rfl rfl rfl rfl rfl rfl)) (fun j hd=>absurd hd.1 hn)
theorem sweep_back{H:Heap}(h:Sound H)(hp:H.phase=3):∀b n,Node H b n→Node H.sweepU b n:=by
 have h0:=h.r1.hand
 unfold Heap.sweepU
 split
 ·exact enter_back (by omega)
 rename_i hh
 have hc:=getL_some (cs:=H.cells) h0.1 (by omega)
 rw[←getC_L]at hc
 have hlt:=(List.getElem?_eq_some_iff.1 hc).1
 have eh:((H.hand.toNat:Nat):Int)=H.hand:=by omega
 split
 ·rename_i hc0
  have hdh:Doomed H H.hand:=⟨hp,hc0.1,hc0.2,by omega⟩
  generalize hK:({H with used:=H.used-(1+(H.getC H.hand).pairs.length),cells:=H.cells.set H.hand.toNat Cell.zero,hand:=H.hand+1}:Heap)=K
  have gC:∀j:Int,0≤j→j≠H.hand→K.getC j=H.getC j:=fun j j0 hj=>by
   rw[getC_L,getC_L,←hK,getL_set hlt,if_neg (by omega)]
  refine(iso_direct (H:=K) (K:=H) (by rw[←hK]) (fun w hw hk=>?_) (fun i c hc1 hs1 hd=>?_) (by rw[←hK]) (by rw[←hK]) (by rw[←hK]) (by rw[←hK]) (by rw[←hK])).node
  ·rw[←hK]at hw
   obtain⟨a,b⟩:=reg_used h.r4 hw
   have hat:=a.at hk
   obtain⟨b1,b2⟩:=b hk
   have e2:=gC _ hat.1 (fun e=>b2 (by rw[e];exact hdh))
   exact⟨by rw[e2];exact b1,e2.symm⟩
  ·have hne:(i:Int)≠H.hand:=fun e=>hd (by rw[e];exact hdh)
   have e2:=gC i (by omega) hne
   refine⟨?_,fun hd'=>hd ⟨hp,by rw[←e2];exact hd'.2.1,by rw[←e2];exact hd'.2.2.1,?_⟩,fun p hp' w hw hk=>?_⟩
   ·rw[e2,getC_nat hc1,←hK]
    show(H.cells.set H.hand.toNat Cell.zero)[i]?=some c
    rw[List.getElem?_set,if_neg (by omega)];exact hc1
   ·have:=hd'.2.2.2
    rw[←hK]at this
    have:H.hand+1≤(i:Int):=this
    omega
   ·obtain⟨k,hk'⟩:=List.getElem?_of_mem hp'
    have m:=pair_used h.r4 hc1 hk' (not_mend (by omega) _ _) hd hw
    obtain⟨b1,b2⟩:=m.2 hk
    have e3:=gC w.at_ (m.1.at hk).1 (fun e=>b2 (by rw[e];exact hdh))
    rw[e3]
    exact⟨b1,b1,rfl⟩
 ·rename_i hc0
  refine Hue.back (hue_set (i:=H.hand.toNat) (k:=0) hlt (by rw[eh]) rfl rfl rfl rfl rfl rfl) (fun j hd=>?_)
  have h4:H.hand+1≤j:=hd.2.2.2
  have gC:Heap.getC {H with cells:=H.cells.set H.hand.toNat ((H.getC H.hand).col 0),hand:=H.hand+1} j=H.getC j:=by
   rw[getC_L,getL_set hlt,if_neg (by omega)];rfl
  exact⟨hd.1,by rw[←gC];exact hd.2.1,by rw[←gC];exact hd.2.2.1,by omega⟩
theorem move_back{H:Heap}(h:Sound H)(hp:H.phase=4):∀b n,Node H b n→Node H.moveU b n:=by
 have nd:∀j:Int,¬Doomed H j:=fun j=>not_doom (by omega) j
 unfold Heap.moveU
 obtain⟨a1,a2,a3,a4⟩:=frG_ok H H.cells.length
 obtain⟨b1,b2,b3,b4⟩:=luG_ok H H.cells.length
 split
 ·exact enter_back (by omega)
 rename_i hlt
 have sf:=(a3 (by omega)).2
 have su:=b3 (by omega)
 generalize frG H H.cells.length=f at*
 generalize luG H H.cells.length=u at*
 have key:=moved_aw h hp ⟨a1,by omega⟩ b2 sf su
 have ndK:∀j:Int,¬Doomed (H.moved f u) j:=fun j=>not_doom (by show H.phase≠3;omega) j
 have hcu:=getL_some (cs:=H.cells) (j:=u) (by omega) (by omega)
 rw[←getC_L]at hcu
 intro b n hn
 obtain⟨i,c,h1,h2,h3,h4,h5⟩:=hn
 have hi:=(List.getElem?_eq_some_iff.1 h1).1
 have hw:n=⟨c.kind,c.weak,c.last,c.pairs.map (H.moved f u).ap⟩:=by
  rw[h5]
  congr 1
  refine List.map_congr_left fun p hp'=>?_
  obtain⟨k,hk'⟩:=List.getElem?_of_mem hp'
  obtain⟨p1,p2,p3⟩:=h.r4.pairs i c h1 k p hk'
  obtain⟨q1,q2⟩:=p3 (nd i)
  unfold Heap.ap
  rw[key _ p1 ⟨_,q1⟩,key _ p2 ⟨_,q2⟩]
 by_cases e:i=u.toNat
 ·subst e
  rw[hcu]at h1
  cases h1
  refine⟨f.toNat,_,?_,h2,ndK _,h4,hw⟩
  show((H.cells.set f.toNat (H.getC u)).set u.toNat (Cell.gone f))[f.toNat]?=_
  rw[List.getElem?_set,if_neg (by omega),List.getElem?_set,if_pos rfl,if_pos (by omega)]
 ·have e2:i≠f.toNat:=fun e2=>by
   have:=getC_nat h1
   rw[e2,show((f.toNat:Nat):Int)=f by omega]at this
   rw[this]at sf;omega
  refine⟨i,c,?_,h2,ndK _,h4,hw⟩
  show((H.cells.set f.toNat (H.getC u)).set u.toNat (Cell.gone f))[i]?=_
  rw[List.getElem?_set,if_neg (by omega),List.getElem?_set,if_neg (by omega)];exact h1
theorem mend_back{H:Heap}(h:Sound H)(hp:H.phase=5):∀b n,Node H b n→Node H.mendU b n:=by
 have nd:∀j:Int,¬Doomed H j:=fun j=>not_doom (by omega) j
 have h0:=h.r1.hand
 unfold Heap.mendU
 split
 ·exact enter_back (by omega)
 rename_i hh
 have hc:=getL_some (cs:=H.cells) h0.1 (by omega)
 rw[←getC_L]at hc
 have hlt:=(List.getElem?_eq_some_iff.1 hc).1
 cases hs:(H.getC H.hand).pairs[H.sub.toNat]? with
 |none=>simp only;exact(hue_same rfl rfl rfl rfl rfl rfl rfl:Hue H {H with hand:=H.hand+1,sub:=0}).back fun j hd=>by have:H.phase=3:=hd.1;omega
 |some p=>
  simp only
  have e0:H.phase≠3:=by omega
  generalize hq:(⟨H.lead p.key,H.lead p.val⟩:Pair)=q
  generalize hK:({H with cells:=H.cells.set H.hand.toNat {H.getC H.hand with pairs:=(H.getC H.hand).pairs.set H.sub.toNat q},sub:=H.sub+1}:Heap)=K
  have e1:K.cells=H.cells.set H.hand.toNat {H.getC H.hand with pairs:=(H.getC H.hand).pairs.set H.sub.toNat q}:=by rw[←hK]
  have ndK:∀j:Int,¬Doomed K j:=fun j=>not_doom (by rw[←hK];exact e0) j
  have gC:∀j:Int,(K.getC j).state=(H.getC j).state∧(K.getC j).to=(H.getC j).to∧(K.getC j).born=(H.getC j).born:=fun j=>by
   rw[getC_L,getC_L,e1,getL_set hlt]
   split
   ·rename_i e
    have:H.getC j=H.getC H.hand:=by rw[getC_L,getC_L];unfold getL;rw[e]
    show _=(H.getC j).state∧_=(H.getC j).to∧_=(H.getC j).born
    rw[this];exact⟨rfl,rfl,rfl⟩
   ·exact⟨rfl,rfl,rfl⟩
  have haw:K.aw=H.aw:=by
   funext w
   have hl:K.lead w=H.lead w:=by unfold Heap.lead;rw[(gC _).1,(gC _).2.1]
   unfold Heap.aw
   rw[hl,(gC _).2.2]
  have hap:K.ap=H.ap:=by funext p;unfold Heap.ap;rw[haw]
  intro b n hn
  obtain⟨i,c,h1,h2,h3,h4,h5⟩:=hn
  by_cases e:i=H.hand.toNat
  ·subst e
   rw[hc]at h1
   cases h1
   refine⟨H.hand.toNat,{H.getC H.hand with pairs:=(H.getC H.hand).pairs.set H.sub.toNat q},?_,h2,ndK _,h4,?_⟩
   ·rw[e1,List.getElem?_set,if_pos rfl,if_pos hlt]
   ·rw[h5,hap]
    congr 1
    obtain⟨p1,p2,p3⟩:=h.r4.pairs _ _ hc _ p hs
    obtain⟨q1,q2⟩:=p3 (nd _)
    have l1:=lead_fm h.r2 p1 q1 nd
    have l2:=lead_fm h.r2 p2 q2 nd
    have:H.ap q=H.ap p:=by
     rw[←hq]
     unfold Heap.ap
     rw[lead_lead (fun hk=>l1.2 (lead_kind.2 hk)),lead_lead (fun hk=>l2.2 (lead_kind.2 hk))]
    show _=List.map H.ap ((H.getC H.hand).pairs.set H.sub.toNat q)
    rw[List.map_set,this]
    refine List.ext_getElem? fun k=>?_
    rw[List.getElem?_set]
    split
    ·rename_i e
     subst e
     rw[List.getElem?_map,hs]
     rw[if_pos (by rw[List.length_map];exact(List.getElem?_eq_some_iff.1 hs).1)];rfl
    ·rfl
  ·refine⟨i,c,?_,h2,ndK _,h4,by rw[h5,hap]⟩
   rw[e1,List.getElem?_set,if_neg (by omega)];exact h1
theorem close_back{H:Heap}(h:Sound H)(hp:H.phase=6):∀b n,Node H b n→Node H.closeU b n:=by
 have nd:∀j:Int,¬Doomed H j:=fun j=>not_doom (by omega) j
 have h0:=h.r1.hand
 obtain⟨l1,l2⟩:=lead1 h hp
 unfold Heap.closeU
 split
 ·exact(hue_same rfl rfl rfl rfl rfl rfl rfl:Hue H {H.enterH 0 with rounds:=if H.rounds<1000000000 then H.rounds+1 else H.rounds}).back fun j hd=>by have:(0:Int)=3:=hd.1;omega
 rename_i hh
 have hc:=getL_some (cs:=H.cells) (j:=H.hand-1) (by omega) (by omega)
 rw[←getC_L]at hc
 have hlt:=(List.getElem?_eq_some_iff.1 hc).1
 have hl:H.closeA.length=H.cells.length:=by unfold Heap.closeA;split<;>simp
 have gA:∀(i:Nat) c,H.cells[i]?=some c→c.state=1→H.closeA[i]?=some c:=fun i c hi hs=>by
  unfold Heap.closeA
  split
  ·rename_i e
   rw[List.getElem?_set,if_neg (fun e2=>by
    have:=getC_nat hi
    rw[←e2,show(((H.hand-1).toNat:Nat):Int)=H.hand-1 by omega]at this
    rw[this]at e;omega)]
   exact hi
  ·exact hi
 generalize hX:(if H.hand=H.cells.length∧(getL H.closeA (H.hand-1)).state=0 then H.closeA.take (H.hand-1).toNat else H.closeA)=X
 have gX:∀(i:Nat) c,H.cells[i]?=some c→c.state=1→X[i]?=some c:=fun i c hi hs=>by
  rw[←hX]
  have h1:=gA i c hi hs
  split
  ·rename_i e
   have hil:=(List.getElem?_eq_some_iff.1 hi).1
   rw[List.getElem?_take,if_pos ?_]
   ·exact h1
   ·have:i≠(H.hand-1).toNat:=fun e2=>by
     rw[getL_at h1 (by omega)]at e
     omega
    omega
  ·exact h1
 have gY:∀j:Int,0≤j→j<H.cells.length→(H.getC j).state=1→getL X j=H.getC j:=fun j j0 j1 hj=>by
  have h1:=getL_some (cs:=H.cells) j0 j1
  rw[←getC_L]at h1
  exact getL_at (gX _ _ h1 hj) rfl
 refine(iso_direct (H:={H with hand:=H.hand-1,cells:=X}) (K:=H) rfl (fun w hw hk=>?_) (fun i c hc1 hs1 hd=>?_) rfl rfl rfl rfl rfl).node
 ·have a:=l1 w hw
  have hat:=a.1.at hk
  have e:Heap.getC {H with hand:=H.hand-1,cells:=X} w.at_=H.getC w.at_:=gY _ hat.1 hat.2 (a.2 hk)
  rw[e]
  exact⟨a.2 hk,rfl⟩
 ·have h2:=gX i c hc1 hs1
  have e:Heap.getC {H with hand:=H.hand-1,cells:=X} i=c:=getL_at h2 (by omega)
  rw[e]
  refine⟨h2,fun hd=>by have:H.phase=3:=hd.1;omega,fun p hp' w hw hk=>?_⟩
  obtain⟨k,hk'⟩:=List.getElem?_of_mem hp'
  have a:=l2 i c hc1 k p hk' w hw
  have hat:=a.1.at hk
  have e:Heap.getC {H with hand:=H.hand-1,cells:=X} w.at_=H.getC w.at_:=gY _ hat.1 hat.2 (a.2 hk)
  rw[e]
  exact⟨a.2 hk,a.2 hk,rfl⟩
theorem unit_back{H:Heap}(h:Sound H)(hn:¬(H.phase=2∧H.unitH.phase=3)):∀b n,Node H b n→Node H.unitH b n:=by
 revert hn
 unfold Heap.unitH
 split
 ·exact fun _=>roots_back h ‹_›
 split
 ·rename_i e;exact fun hn=>mark_back h e (fun x=>hn ⟨e,x⟩)
 split
 ·exact fun _=>sweep_back h ‹_›
 split
 ·exact fun _=>move_back h ‹_›
 split
 ·exact fun _=>mend_back h ‹_›
 split
 ·exact fun _=>close_back h ‹_›
 exact fun _ b n x=>x
def IsC(w:Word)(b:Int):Prop:=w.kind=2∧w.at_=b
inductive ReachB (H:Heap):Int→Prop
 |reg {w:Word} {b:Int}:w∈H.regs.map H.aw→IsC w b→ReachB H b
 |root {b:Int} {n:Nd}:Node H b n→(n.last=1∨n.last=2)→ReachB H b
 |pair {b d:Int} {n:Nd} {p:Pair} {w:Word}:ReachB H b→Node H b n→p∈n.pairs→(w=p.key∨w=p.val)→IsC w d→ReachB H d
theorem aw_tgt{H:Heap}(h2:R2 H){w:Word}{m:Prop}(hf:Formed H w)(hl:LeadsWell H w m){b:Int}:IsC (H.aw w) b↔∃j,H.tgt w=some j∧(H.getC j).born=b:=by
 unfold Heap.aw Heap.tgt IsC
 by_cases hk:w.kind=2
 ·rw[if_pos hk,if_pos (lead_kind.2 hk)]
  have hat:=lead_at h2 hf hk
  constructor
  ·intro⟨_,e⟩
   exact⟨_,rfl,by rw[show(((H.lead w).at_.toNat:Nat):Int)=(H.lead w).at_ by omega];exact e⟩
  ·rintro⟨j,e1,e2⟩
   simp only[Option.some.injEq]at e1
   subst e1
   rw[show(((H.lead w).at_.toNat:Nat):Int)=(H.lead w).at_ by omega]at e2
   exact⟨rfl,e2⟩
 ·rw[if_neg hk,if_neg (fun e=>hk (lead_kind.1 e))]
  exact⟨fun e=>absurd e.1 hk,fun⟨j,e,_⟩=>by cases e⟩
theorem node_at{H:Heap}{i:Nat}{c:Cell}(hc:H.cells[i]?=some c)(hs:c.state=1)(hd:¬Doomed H i):Node H c.born ⟨c.kind,c.weak,c.last,c.pairs.map H.ap⟩:=⟨i,c,hc,hs,hd,rfl,rfl⟩
theorem reach_b{H:Heap}(h:Sound H){i:Nat}(hr:Reached H i):ReachB H (H.getC i).born:=by
 induction hr with
 | @reg w j h1 h2=>
   obtain⟨a,b⟩:=h.r4.regs w h1
   exact .reg (List.mem_map.2 ⟨w,h1,rfl⟩) ((aw_tgt h.r2 a b).2 ⟨_,h2,rfl⟩)
 | @root i c h1 h2=>
   have hd:¬Doomed H i:=fun hd=>h.r4.roots _ _ h1 hd h2
   rw[getC_nat h1]
   exact .root (node_at h1 h2.1 hd) h2.2
 | @pair i j c p w h1 h2 h3 h4 h5 ih=>
   obtain⟨c',a1,a2,a3⟩:=reached_ok h.r2 h.r4 h1
   rw[h2]at a1
   cases a1
   rw[getC_nat h2]at ih
   obtain⟨k,hk⟩:=List.getElem?_of_mem h3
   obtain⟨p1,p2,p3⟩:=h.r4.pairs i c h2 k p hk
   obtain⟨q1,q2⟩:=p3 a3
   refine .pair (p:=H.ap p) (w:=H.aw w) ih (node_at h2 a2 a3) (List.mem_map.2 ⟨p,h3,rfl⟩) (by rcases h4 with rfl|rfl;exact .inl rfl;exact .inr rfl) ?_
   rcases h4 with rfl|rfl
   ·exact(aw_tgt h.r2 p1 q1).2 ⟨_,h5,rfl⟩
   ·exact(aw_tgt h.r2 p2 q2).2 ⟨_,h5,rfl⟩
theorem born_one{H:Heap}(h:R2 H){i j:Nat}{c d:Cell}(hc:H.cells[i]?=some c)(hd:H.cells[j]?=some d)(sc:c.state=1)(sd:d.state=1)(e:c.born=d.born):i=j∧c=d:=by
 have:i=j:=by
  rcases Nat.lt_trichotomy i j with x|x|x
  ·exact absurd e (h.born i j c d hc hd x sc sd)
  ·exact x
  ·exact absurd e.symm (h.born j i d c hd hc x sd sc)
 subst this
 rw[hc]at hd
 cases hd;exact⟨rfl,rfl⟩
theorem b_reach{H:Heap}(h:Sound H){b:Int}(hr:ReachB H b):∃(i:Nat) (c:Cell),H.cells[i]?=some c∧c.state=1∧¬Doomed H i∧c.born=b∧Reached H i:=by
 induction hr with
 | @reg w b h1 h2=>
   obtain⟨v,hv,rfl⟩:=List.mem_map.1 h1
   obtain⟨a,l⟩:=h.r4.regs v hv
   obtain⟨j,e1,e2⟩:=(aw_tgt h.r2 a l).1 h2
   have hr:Reached H j:=.reg hv e1
   obtain⟨c,c1,c2,c3⟩:=reached_ok h.r2 h.r4 hr
   rw[getC_nat c1]at e2
   exact⟨j,c,c1,c2,c3,e2,hr⟩
 | @root b n h1 h2=>
   obtain⟨i,c,a1,a2,a3,a4,rfl⟩:=h1
   exact⟨i,c,a1,a2,a3,a4,.root a1 ⟨a2,h2⟩⟩
 | @pair b d n p w _ h2 h3 h4 h5 ih=>
   obtain⟨i,c,a1,a2,a3,a4,a5⟩:=ih
   obtain⟨i',c',d1,d2,d3,d4,rfl⟩:=h2
   obtain⟨rfl,rfl⟩:=born_one h.r2 a1 d1 a2 d2 (a4.trans d4.symm)
   obtain⟨q,hq,rfl⟩:=List.mem_map.1 h3
   obtain⟨k,hk⟩:=List.getElem?_of_mem hq
   obtain⟨p1,p2,p3⟩:=h.r4.pairs i c a1 k q hk
   obtain⟨q1,q2⟩:=p3 a3
   have key:∀v,(v=q.key∨v=q.val)→Formed H v→LeadsWell H v (¬Mended H i k)→IsC (H.aw v) d→∃(i:Nat) (c:Cell),H.cells[i]?=some c∧c.state=1∧¬Doomed H i∧c.born=d∧Reached H i:=fun v hv hf hl hc=>by
    obtain⟨j,e1,e2⟩:=(aw_tgt h.r2 hf hl).1 hc
    have hr:Reached H j:=.pair a5 a1 hq hv e1
    obtain⟨c2,x1,x2,x3⟩:=reached_ok h.r2 h.r4 hr
    rw[getC_nat x1]at e2
    exact⟨j,c2,x1,x2,x3,e2,hr⟩
   rcases h4 with rfl|rfl
   ·exact key q.key (.inl rfl) p1 q1 h5
   ·exact key q.val (.inr rfl) p2 q2 h5
theorem reach_iff{H:Heap}(h:Sound H){i:Nat}{c:Cell}(hc:H.cells[i]?=some c)(hs:c.state=1):Reached H i↔ReachB H c.born:=by
 constructor
 ·intro hr
  have:=reach_b h hr
  rw[getC_nat hc]at this;exact this
 ·intro hr
  obtain⟨j,d,d1,d2,d3,d4,d5⟩:=b_reach h hr
  obtain⟨rfl,rfl⟩:=born_one h.r2 d1 hc d2 hs d4
  exact d5
theorem enter3_keeps{H:Heap}(h:Sound H)(hs:Sound (H.enterH 3)){i:Nat}(hr:Reached H i):¬Doomed (H.enterH 3) i:=by
 have:Reached (H.enterH 3) i:=by
  induction hr with
  |reg h1 h2=>exact .reg h1 h2
  |root h1 h2=>exact .root h1 h2
  |pair _ h2 h3 h4 h5 ih=>exact .pair ih h2 h3 h4 h5
 obtain⟨c,_,_,hd⟩:=reached_ok hs.r2 hs.r4 this
 exact hd
theorem unit_keep{H:Heap}(h:Sound H){b:Int}{n:Nd}(hn:Node H b n)(hr:ReachB H b):Node H.unitH b n:=by
 by_cases e:H.phase=2∧H.unitH.phase=3
 ·have e2:H.unitH=H.enterH 3:=by
   have e3:=e.2
   unfold Heap.unitH at e3⊢
   rw[if_neg (by omega),if_pos e.1]at e3⊢
   have hne:∀K:Heap,Sh H K→K.phase≠3:=fun K hK=>by rw[hK.phase];omega
   unfold Heap.markU at e3⊢
   cases hg:H.gray with
   |nil=>
    rw[hg]at e3
    simp only at e3⊢
    split at e3
    ·exact absurd e3 (hne _ (shadeL_ok H.regs H (fun w hw=>⟨(reg_used h.r4 hw).1,fun hk=>((reg_used h.r4 hw).2 hk).1⟩)).1)
    ·rename_i hx;rw[if_neg hx]
   |cons g r=>
    rw[hg]at e3
    simp only at e3
    cases hs:(H.getC g).pairs[H.sub.toNat]? with
    |none=>
     rw[hs]at e3
     have:H.phase=3:=e3
     omega
    |some p=>
     rw[hs]at e3
     have:((H.shadeW p.key).shadeW p.val).phase=3:=e3
     exact absurd this (hne _ (markP2 h e.1 hg hs).1)
  rw[e2]
  have hs:=unit_sound h
  rw[e2]at hs
  obtain⟨i,c,a1,a2,a3,a4,a5⟩:=hn
  have hri:=(reach_iff h a1 a2).2 (by rw[a4];exact hr)
  refine⟨i,c,a1,a2,enter3_keeps h hs hri,a4,a5⟩
 ·exact unit_back h e b n hn
theorem unit_reach{H:Heap}(h:Sound H){b:Int}:ReachB H.unitH b↔ReachB H b:=by
 have i:=unit_iso h
 constructor
 ·intro hr
  induction hr with
  |reg h1 h2=>exact .reg (by rw[←i.regs];exact h1) h2
  |root h1 h2=>exact .root (i.node _ _ h1) h2
  |pair _ h2 h3 h4 h5 ih=>exact .pair ih (i.node _ _ h2) h3 h4 h5
 ·intro hr
  induction hr with
  |reg h1 h2=>exact .reg (by rw[i.regs];exact h1) h2
  |root h1 h2=>exact .root (unit_keep h h1 (.root h1 h2)) h2
  |pair h1 h2 h3 h4 h5 ih=>exact .pair ih (unit_keep h h2 h1) h3 h4 h5
def Vis(H:Heap)(b:Int)(n:Nd):Prop:=Node H b n∧ReachB H b
theorem unit_vis{H:Heap}(h:Sound H){b:Int}{n:Nd}:Vis H.unitH b n↔Vis H b n:=
 ⟨fun x=>⟨(unit_iso h).node _ _ x.1,(unit_reach h).1 x.2⟩,fun x=>⟨unit_keep h x.1 x.2,(unit_reach h).2 x.2⟩⟩
end Go.Proofs.YtpleoapljeffiaaDoor.E
