/- A part of the proof. Conditions: none. -/
import Derived.Test.YtpleoapljeffiaaGreatDoorKE20
set_option maxRecDepth 100000
set_option linter.unusedVariables false
namespace Go.Proofs.YtpleoapljeffiaaGreatDoor.E
open Go
noncomputable def e152:Env:=⟨Tryz.prog,[2,3,4,6,80],119,[(5,0),(9,0),(10,8),(11,11),(12,10)]⟩
abbrev qo(a0:Nat)(a1:Int)(a2:Int)(a3:Int)(a4:Nat)(a5:Nat)(a6:Nat)(a7:Nat)(a8:Int)(a9:Int)(a10:Int)(a11:Nat)(a12:Nat)(a13:Int)(a14:Int)(a15:Int)(a16:Int)(a17:Int)(a18:Int):I:=⟨some a0,none,.alloc true [.int .i64 a1,.int .i64 a2,.int .i64 a3,.slice none a4 a5,.slice none a6 a7,.int .i64 a8,.int .i64 a9,.int .i64 a10,.slice none a11 a12,.int .i64 a13,.int .i64 a14,.int .i64 a15,.int .i64 a16,.int .i64 a17,.int .i64 a18]⟩
abbrev jF(a0:Nat)(a1:Nat)(a2:Nat)(a3:Int)(a4:Int)(a5:Int)(a6:Nat)(a7:Nat)(a8:Nat)(a9:Nat)(a10:Int)(a11:Int)(a12:Int)(a13:Nat)(a14:Nat)(a15:Int)(a16:Int)(a17:Int)(a18:Int):I:=⟨some a0,none,.alloc true [.bool false,.slice none a1 a2,.int .i64 a3,.int .i64 a4,.int .i64 a5,.slice none a6 a7,.slice none a8 a9,.int .i64 a10,.int .i64 a11,.int .i64 a12,.slice none a13 a14,.int .i64 a15,.int .i64 a16,.int .i64 a17,.int .i64 a18]⟩
noncomputable def c152:C:=
 .seq (.reg [zT 2 0,zT 3 1,zq 4 0 0]) (.seq (.seq (.reg [z4 7 0 2,z5 8 1 7,z6 9 8,z4 10 2 9,z5 11 1 10,zA 12 11 1000000000,z3 13 12,q9 14 13 2 2,zO 15 13 3 3,zP 16 13 1 15,⟨some 17,some (13,false),.bin .add (.const (.int .i64 1)) (.tmp 16)⟩,qN 18 13 161 14 17,zf 19 13 18,zR 20 13 19]) (.cond (.tmp 20) (.seq (.reg [ze 21 83 4,z7 2 4 21]) .ret) .skip)) (.seq (.reg [z9 22 2 2,zM 23 165 22,z3 5
 23]) (.seq (.reg [z4 24 0 2,z5 25 1 24,z6 26 25,z4 27 2 26,z5 28 1 27,zG 29 28 1,z6 30 25,z4 31 2 30,z7 1 31 29]) (.seq (.hreg [2,3,4,80] [z4 32 2 3,z5 33 1 32,z4 34 0 2,z5 35 1 34,z6 36 35,z4 37 2 36,z5 38 1 37,z4 39 3 3,z5 40 1 39] (.alt (qj 41 6 48 0 0 0 0 0 0 40 40) (.alt (qg 42 0 0 0 0 0 0 0 0 0 0 1 1 1 1 33 4 1 38 7 1 41) (.alt (zX 6 0 0 0 0 0 0 0 0 0) (.alf (z7 8 6 42) (.done) (.none))
 (.none)) (.alt (zX 6 0 0 0 0 0 0 0 0 0) (.alt (qg 42 0 0 0 0 0 0 0 0 0 0 1 1 1 1 33 4 1 38 7 1 41) (.alf (z7 8 6 42) (.done) (.none)) (.none)) (.none))) (.alt (zX 6 0 0 0 0 0 0 0 0 0) (.alt (qj 41 6 48 0 0 0 0 0 0 40 40) (.alt (qg 42 0 0 0 0 0 0 0 0 0 0 1 1 1 1 33 4 1 38 7 1 41) (.alf (z7 8 6 42) (.done) (.none)) (.none)) (.none)) (.none)))) (.seq (.seq (.reg [z4 43 0 2,z5 44 1 43,zM 45 150 44,
 z3 46 45,zO 47 46 0 2,zP 48 46 1 47,za 49 46 48,zO 50 46 5 49,zP 51 46 1 50,zt 52 46 51 3,zQ 53 46 52,zJ 54 53 5,zI 55 53 0 2,zF 56 53 1 55,zU 57 53 56,zI 58 53 6 57,zF 59 53 1 58,qh 60 53 54 59,q8 61 46 53 60,zR 62 46 61]) (.cond (.tmp 62) (.reg [z4 63 5 6,zn 1 63 2]) .skip)) (.seq (.seq (.reg [z3 64 5,z4 65 0 2,z5 66 1 65,z6 67 66,z4 68 4 67,z5 69 1 68,zE 70 69,zy 71 64 70]) (.cond (.tmp 71)
 (.hreg [2,3,4,6] [z4 72 0 2,z5 73 1 72,z4 74 0 2,z5 75 1 74,z6 76 75,z4 77 4 76,z5 78 1 77,z9 79 8 6] (.alt (qx 80 1 8 0 0 0 0 0 0 0 0 0 0 8 79) (.alt (qy 81 8 80 0 0 0 0 0 0 0 0 0 78 80) (.alf (z6 82 73) (.alf (z4 83 4 82) (.alf (z7 1 83 81) (.done) (.none)) (.none)) (.none)) (.none)) (.none))) (.dreg 8 [z4 84 0 2,z5 85 1 84,z6 86 85,z4 87 4 86,z5 88 1 87,z3 89 5,z9 90 8 6,z8 91 8 88 89,z7 8
 91 90]))) (.seq (.dreg 11 [z4 92 0 2,z5 93 1 92,z6 94 93,z4 95 1 94,z5 96 1 95,z4 97 3 3,z5 98 1 97,qT 99 1 98,q4 100 96 99,z6 101 93,z4 102 1 101,z7 1 102 100]) (.seq (.dreg 10 [z4 103 0 2,z5 104 1 103,z6 105 104,z4 106 3 105,z5 107 1 106,z4 108 1 3,z5 109 1 108,z3 110 5,q7 111 0 0 0 0 1 2 2 1 110,z8 112 3 107 109,z7 3 112 111]) (.seq (.reg [z9 113 2 2,z4 114 3 3,z5 115 1 114,qT 116 1 115,zL
 117 162 113 116]) (.seq (.reg [ze 118 131 0,z7 2 4 118]) .ret))))))))))
theorem t152:Tryz.f152.body.bind (trC e152)=some c152:=by kernel_rfl
theorem r152:Tryz.f152.results.toList.mapM (trR Tryz.prog)=some [.cell 4 false 2]:=by kernel_rfl
theorem fn152{args:List Value}{M:Mem}{post:Value→Mem→Prop}(hl:args.length≤119)(h:VC e152 c152 (fnQ [.cell 4 false 2] post) (initS args 119) M):Fn Tryz.prog 152 args M post:=
 Fn.of' (E:=e152) Tryz.func152 t152 rfl r152 mixed hl h
noncomputable def e128:Env:=⟨Tryz.prog,[3,5,6],70,[(1,14),(5,16),(6,7),(7,10)]⟩
noncomputable def c128:C:=
 .seq (.reg [zT 3 0,zT 5 2,zq 6 0 0]) (.seq (.seq (.dreg 14 [z4 8 0 3,z5 9 1 8,z6 10 9,z4 11 4 10,z5 12 1 11,z3 13 1,z8 14 8 12 13,z4 15 7 14,z5 16 1 15,zE 17 16,z4 18 3 5,z5 19 1 18,q4 20 17 19,qP 21 20 200]) (.cond (.tmp 21) (.seq (.reg [ze 22 83 5,z7 2 6 22]) .ret) .skip)) (.seq (.seq (.reg [z9 23 2 3,z4 24 3 5,z5 25 1 24,zL 26 161 23 25,zV 27 26]) (.cond (.tmp 27) (.seq (.reg [ze 28 83 4,
 z7 2 6 28]) .ret) .skip)) (.seq (.dreg 16 [z4 29 0 3,z5 30 1 29,z6 31 30,z4 32 4 31,z5 33 1 32,z4 34 0 3,z5 35 1 34,z6 36 35,z4 37 3 36,z5 38 1 37,z4 39 1 5,z5 40 1 39,z8 41 3 38 40,z4 42 2 41,z5 43 1 42,z8 44 8 33 43,z3 7 44]) (.seq (.dreg 7 [z3 45 7,z3 46 7,z6 47 46,z4 48 7 47,z5 49 1 48,z4 50 3 5,z5 51 1 50,⟨some 52,none,.appz 6 48 [.int .i64 0,.int .i64 0,.int .i64 0,.int .i64 0,.int .i64 0,
 .int .i64 0] (.tmp 49) (.tmp 51)⟩,z6 53 45,z4 54 7 53,z7 1 54 52]) (.seq (.dreg 10 [z4 55 0 3,z5 56 1 55,z6 57 56,z4 58 1 57,z5 59 1 58,z4 60 3 5,z5 61 1 60,q4 62 59 61,z6 63 56,z4 64 1 63,z7 1 64 62]) (.seq (.reg [z9 65 2 3,z4 66 3 5,z5 67 1 66,zL 68 162 65 67]) (.seq (.reg [ze 69 131 0,z7 2 6 69]) .ret)))))))
theorem t128:Tryz.f128.body.bind (trC e128)=some c128:=by kernel_rfl
theorem r128:Tryz.f128.results.toList.mapM (trR Tryz.prog)=some [.cell 6 false 2]:=by kernel_rfl
theorem fn128{args:List Value}{M:Mem}{post:Value→Mem→Prop}(hl:args.length≤70)(h:VC e128 c128 (fnQ [.cell 6 false 2] post) (initS args 70) M):Fn Tryz.prog 128 args M post:=
 Fn.of' (E:=e128) Tryz.func128 t128 rfl r128 mixed hl h
noncomputable def e84:Env:=⟨Tryz.prog,[2,3,4],210,[(6,12),(15,12),(24,8),(26,7),(29,15),(31,15),(33,12),(34,6),(36,12),(37,6)]⟩
noncomputable def c84:C:=
 .seq (.reg [zT 2 0,zT 3 1,zq 4 0 0]) (.seq (.reg [zC 5 (-1)]) (.seq (.seq (.reg [z4 8 0 3,z5 9 1 8]) (.block 0 (.seq (.seq (.reg [zA 14 9 5,z3 13 14]) (.cond (.tmp 13) .skip (.reg [zA 15 9 6,z3 13 15]))) (.cond (.tmp 13) (.dreg 12 [z4 16 0 2,z5 17 1 16,z4 18 0 2,z5 19 1 18,z6 20 19,z4 21 3 20,z5 22 1 21,z4 23 2 3,z5 24 1 23,z8 25 3 22 24,z9 26 3 25,q6 27 124 17 26,z3 5 27]) (.seq (.seq
 (.reg [zA 29 9 7,z3 28 29]) (.cond (.tmp 28) .skip (.seq (.reg [zA 30 9 8,z3 28 30]) (.cond (.tmp 28) .skip (.seq (.reg [zA 31 9 9,z3 28 31]) (.cond (.tmp 28) .skip (.seq (.reg [zA 32 9 10,z3 28 32]) (.cond (.tmp 28) .skip (.seq (.reg [zA 33 9 11,z3 28 33]) (.cond (.tmp 28) .skip (.seq (.reg [zA 34 9 12,z3 28 34]) (.cond (.tmp 28) .skip (.seq (.reg [zA 35 9 16,z3 28 35]) (.cond (.tmp 28)
 .skip (.reg [zA 36 9 17,z3 28 36]))))))))))))))) (.cond (.tmp 28) (.dreg 12 [z4 37 0 2,z5 38 1 37,z4 39 0 2,z5 40 1 39,z6 41 40,z4 42 3 41,z5 43 1 42,z4 44 1 3,z5 45 1 44,z8 46 3 43 45,z9 47 3 46,q6 48 124 38 47,z3 5 48]) (.seq (.reg [z9 10 2 2,z9 11 5 3,zL 12 125 10 11,z7 2 4 12]) .ret))))))) (.seq (.seq (.reg [z3 49 5,zc 50 49 0]) (.cond (.tmp 50) (.seq (.reg [ze 51 83 2,z7 2 4 51]) .ret)
 .skip)) (.seq (.reg [z4 52 0 2,z5 53 1 52,z6 54 53,z4 55 4 54,z5 56 1 55,z3 57 5,z8 58 8 56 57,z3 6 58]) (.seq (.seq (.reg [z4 59 0 3,z5 60 1 59]) (.block 1 (.seq (.seq (.reg [zA 62 60 5,z3 61 62]) (.cond (.tmp 61) .skip (.seq (.reg [zA 63 60 6,z3 61 63]) (.cond (.tmp 61) .skip (.seq (.reg [zA 64 60 7,z3 61 64]) (.cond (.tmp 61) .skip (.reg [zA 65 60 8,z3 61 65]))))))) (.cond (.tmp 61)
 (.seq (.seq (.dreg 8 [z4 66 3 3,z5 67 1 66,z3 68 6,z6 69 68,z4 70 7 69,z5 71 1 70,zE 72 71,qX 73 67 72]) (.cond (.tmp 73) (.seq (.reg [ze 74 83 3,z7 2 4 74]) .ret) .skip)) (.seq (.dreg 7 [z3 75 6,z6 76 75,z4 77 7 76,z5 78 1 77,z4 79 3 3,z5 80 1 79,z8 81 6 78 80,z3 7 81]) (.seq (.reg [z4 82 0 3,z5 83 1 82]) (.block 2 (.seq (.reg [zA 85 83 5,z3 84 85]) (.cond (.tmp 84) (.dreg 15 [z4 86 0 2,z5
 87 1 86,z6 88 87,z4 89 3 88,z5 90 1 89,z4 91 1 3,z5 92 1 91,z4 93 0 2,z5 94 1 93,z3 95 7,z6 96 95,z4 97 0 96,z9 98 3 97,q6 99 126 94 98,z8 100 3 90 92,z7 3 100 99]) (.seq (.reg [zA 102 83 6,z3 101 102]) (.cond (.tmp 101) (.dreg 15 [z4 103 0 2,z5 104 1 103,z6 105 104,z4 106 3 105,z5 107 1 106,z4 108 1 3,z5 109 1 108,z4 110 0 2,z5 111 1 110,z3 112 7,z6 113 112,z4 114 3 113,z9 115 3 114,q6 116 126
 111 115,z8 117 3 107 109,z7 3 117 116]) (.seq (.reg [zA 119 83 7,z3 118 119]) (.cond (.tmp 118) (.seq (.dreg 12 [z3 120 7,z4 121 0 2,z5 122 1 121,z6 123 122,z4 124 3 123,z5 125 1 124,z4 126 2 3,z5 127 1 126,z8 128 3 125 127,z9 129 3 128,z6 130 120,z4 131 0 130,z7 3 131 129]) (.dreg 6 [z4 132 0 2,z5 133 1 132,z3 134 7,z6 135 134,z4 136 0 135,z9 137 3 136,zL 138 127 133 137])) (.seq (.reg [zA
 140 83 8,z3 139 140]) (.cond (.tmp 139) (.seq (.dreg 12 [z3 141 7,z4 142 0 2,z5 143 1 142,z6 144 143,z4 145 3 144,z5 146 1 145,z4 147 2 3,z5 148 1 147,z8 149 3 146 148,z9 150 3 149,z6 151 141,z4 152 3 151,z7 3 152 150]) (.dreg 6 [z4 153 0 2,z5 154 1 153,z3 155 7,z6 156 155,z4 157 3 156,z9 158 3 157,zL 159 127 154 158])) .skip)))))))))))) (.seq (.reg [zA 161 60 9,z3 160 161]) (.cond (.tmp 160)
 (.seq (.reg [z9 162 2 2,z3 163 5,z9 164 5 3,qI 165 128 162 163 164,z7 2 4 165]) .ret) (.seq (.reg [zA 167 60 10,z3 166 167]) (.cond (.tmp 166) (.reg [z9 168 2 2,z3 169 5,z4 170 3 3,z5 171 1 170,qI 172 129 168 169 171]) (.seq (.reg [zA 174 60 11,z3 173 174]) (.cond (.tmp 173) (.reg [z3 175 6,z4 176 3 3,z5 177 1 176,z6 178 175,z4 179 2 178,z7 1 179 177]) (.seq (.reg [zA 181 60 12,z3 180 181])
 (.cond (.tmp 180) (.seq (.reg [z3 182 6,z4 183 3 3,z5 184 1 183,z6 185 182,z4 186 3 185,z7 1 186 184]) (.seq (.reg [z4 187 3 3,z5 188 1 187,zA 189 188 1]) (.cond (.tmp 189) (.reg [z4 190 0 2,z5 191 1 190,z3 192 5,zL 193 130 191 192]) .skip))) (.seq (.reg [zA 195 60 16,z3 194 195]) (.cond (.tmp 194) (.seq (.reg [z3 196 6,z6 197 196,z4 198 1 197,z5 199 1 198,zM 200 131 199,z7 2 4 200]) .ret)
 (.seq (.reg [zA 202 60 17,z3 201 202]) (.cond (.tmp 201) (.seq (.reg [z3 203 6,z6 204 203,z4 205 7 204,z5 206 1 205,zE 207 206,zM 208 131 207,z7 2 4 208]) .ret) .skip)))))))))))))))) (.seq (.reg [ze 209 131 0,z7 2 4 209]) .ret))))))
theorem t84:Tryz.f84.body.bind (trC e84)=some c84:=by kernel_rfl
theorem r84:Tryz.f84.results.toList.mapM (trR Tryz.prog)=some [.cell 4 false 2]:=by kernel_rfl
theorem fn84{args:List Value}{M:Mem}{post:Value→Mem→Prop}(hl:args.length≤210)(h:VC e84 c84 (fnQ [.cell 4 false 2] post) (initS args 210) M):Fn Tryz.prog 84 args M post:=
 Fn.of' (E:=e84) Tryz.func84 t84 rfl r84 mixed hl h
noncomputable def e125:Env:=⟨Tryz.prog,[2,3,4],226,[(5,11),(7,9),(9,17),(11,19),(14,11),(16,11),(18,11),(25,9),(28,10),(31,0),(33,0),(40,0)]⟩
noncomputable def c125:C:=
 .seq (.reg [zT 2 0,zT 3 1,zq 4 0 0]) (.seq (.seq (.reg [z4 8 0 3,z5 9 1 8]) (.block 0 (.seq (.reg [zA 11 9 1,z3 10 11]) (.cond (.tmp 10) (.seq (.reg [z9 12 2 2,z9 13 5 3,zL 14 152 12 13,z7 2 4 14]) .ret) (.seq (.reg [zA 16 9 2,z3 15 16]) (.cond (.tmp 15) (.dreg 11 [z4 17 0 2,z5 18 1 17,z6 19 18,z4 20 3 19,z5 21 1 20,z4 22 1 3,z5 23 1 22,z4 24 4 3,z5 25 1 24,q7 26 0 0 0 0 1 1 1 1 25,z8 27 3
 21 23,z7 3 27 26]) (.seq (.reg [zA 29 9 3,z3 28 29]) (.cond (.tmp 28) (.dreg 9 [z4 30 0 2,z5 31 1 30,z6 32 31,z4 33 3 32,z5 34 1 33,z4 35 1 3,z5 36 1 35,qw 37 0 0 0,z8 38 3 34 36,z7 3 38 37]) (.seq (.reg [zA 40 9 4,z3 39 40]) (.cond (.tmp 39) (.dreg 17 [z4 41 0 2,z5 42 1 41,z6 43 42,z4 44 3 43,z5 45 1 44,z4 46 1 3,z5 47 1 46,z4 48 0 2,z5 49 1 48,z6 50 49,z4 51 3 50,z5 52 1 51,z4 53 2 3,z5 54
 1 53,z8 55 3 52 54,z9 56 3 55,z8 57 3 45 47,z7 3 57 56]) (.seq (.reg [zA 59 9 13,z3 58 59]) (.cond (.tmp 58) (.seq (.dreg 19 [z4 60 0 2,z5 61 1 60,z6 62 61,z4 63 3 62,z5 64 1 63,z4 65 1 3,z5 66 1 65,z8 67 3 64 66,z9 68 3 67,z4 69 0 2,z5 70 1 69,z6 71 70,z4 72 3 71,z5 73 1 72,z4 74 2 3,z5 75 1 74,z8 76 3 73 75,z9 77 3 76,⟨some 78,none,.eqA false 3 (.tmp 68) (.tmp 77)⟩]) (.cond (.tmp 78) (.seq
 (.reg [ze 79 131 1,z7 2 4 79]) .ret) .skip)) (.seq (.reg [zA 81 9 14,z3 80 81]) (.cond (.tmp 80) (.seq (.dreg 11 [z4 82 0 2,z5 83 1 82,z6 84 83,z4 85 3 84,z5 86 1 85,z4 87 1 3,z5 88 1 87,z8 89 3 86 88,z4 90 0 89,z5 91 1 90,qH 92 131 91,z7 2 4 92]) .ret) (.seq (.reg [zA 94 9 15,z3 93 94]) (.cond (.tmp 93) (.seq (.seq (.dreg 11 [z4 95 0 2,z5 96 1 95,z6 97 96,z4 98 3 97,z5 99 1 98,z4 100 1 3,z5
 101 1 100,z8 102 3 99 101,z4 103 0 102,z5 104 1 103,zo 105 104 1]) (.cond (.tmp 105) (.seq (.reg [ze 106 83 2,z7 2 4 106]) .ret) .skip)) (.seq (.dreg 11 [z4 107 0 2,z5 108 1 107,z6 109 108,z4 110 3 109,z5 111 1 110,z4 112 1 3,z5 113 1 112,z8 114 3 111 113,z4 115 1 114,z5 116 1 115,qf 117 0 0 1 1 116,z7 2 4 117]) .ret)) (.seq (.reg [zA 119 9 18,z3 118 119]) (.cond (.tmp 118) (.seq (.reg [z4
 121 0 2,z5 122 1 121,zM 123 153 122,z3 120 123,qE 124 120 0,qE 125 120 1,z3 5 124,z3 6 125]) (.seq (.reg [z3 126 6,zM 127 131 126,z7 2 4 127]) .ret)) (.seq (.reg [zA 129 9 19,z3 128 129]) (.cond (.tmp 128) (.seq (.reg [z4 130 0 2,z5 131 1 130,zM 132 154 131,z3 7 132]) (.seq (.seq (.reg [z3 133 7,zc 134 133 0]) (.cond (.tmp 134) (.seq (.dreg 9 [z4 135 0 2,z5 136 1 135,z6 137 136,z4 138 3 137,
 z5 139 1 138,z4 140 1 3,z5 141 1 140,qw 142 0 0 0,z8 143 3 139 141,z7 3 143 142]) (.seq (.reg [ze 144 131 0,z7 2 4 144]) .ret)) .skip)) (.seq (.reg [z4 145 0 2,z5 146 1 145,z6 147 146,z4 148 4 147,z5 149 1 148,z3 150 7,z8 151 8 149 150,z4 152 3 151,zn 1 152 3]) (.seq (.dreg 10 [z4 153 0 2,z5 154 1 153,z6 155 154,z4 156 3 155,z5 157 1 156,z4 158 1 3,z5 159 1 158,z3 160 7,q7 161 0 0 0 0 1 2 2 1
 160,z8 162 3 157 159,z7 3 162 161]) (.seq (.reg [ze 163 131 1,z7 2 4 163]) .ret))))) (.seq (.reg [zA 165 9 20,z3 164 165]) (.cond (.tmp 164) (.seq (.hreg [2,3,4] [z4 166 0 2,z5 167 1 166,z4 168 0 2,z5 169 1 168] (.alt (zM 170 156 169) (.alt (zL 171 155 167 170) (.alt (zM 172 131 171) (.alf (z7 2 4 172) (.done) (.none)) (.none)) (.none)) (.none))) .ret) (.seq (.reg [zA 174 9 21,z3 173 174])
 (.cond (.tmp 173) (.seq (.hreg [2,3,4] [z4 175 0 2,z5 176 1 175,z4 177 0 2,z5 178 1 177] (.alt (zM 179 157 178) (.alt (zL 180 155 176 179) (.alt (zM 181 131 180) (.alf (z7 2 4 181) (.done) (.none)) (.none)) (.none)) (.none))) .ret) (.seq (.reg [zA 183 9 22,z3 182 183]) (.cond (.tmp 182) (.seq (.reg [z4 184 1 2,z5 185 1 184,zV 186 185,z3 187 186,zI 188 187 3 3,zF 189 187 1 188,qU 190 187 189 0,
 zK 191 187 190]) (.cond (.tmp 191) (.seq (.reg [z4 192 0 2,z5 193 1 192,zM 194 158 193]) (.reg [z4 195 0 2,z5 196 1 195,z4 197 3 3,z5 198 1 197,zL 199 159 196 198])) .skip)) (.seq (.reg [zA 201 9 23,z3 200 201]) (.cond (.tmp 200) (.seq (.reg [z4 202 1 2,z5 203 1 202,zV 204 203]) (.cond (.tmp 204) (.hreg [2,3,4] [z4 205 0 2,z5 206 1 205,z4 207 0 2,z5 208 1 207,z4 209 2 3,z5 210 1 209,z4 211 3
 3,z5 212 1 211,z6 213 206,z4 214 9 213] (.alt (z7 1 214 210) (.alf (z6 215 208) (.alf (z4 216 10 215) (.alf (z7 1 216 212) (.done) (.none)) (.none)) (.none)) (.none))) .skip)) (.seq (.reg [zA 218 9 24,z3 217 218]) (.cond (.tmp 217) (.seq (.reg [z4 219 1 2,z5 220 1 219,zV 221 220]) (.cond (.tmp 221) (.reg [z4 222 0 2,z5 223 1 222,zM 224 160 223]) .skip)) .skip))))))))))))))))))))))))))))))
 (.seq (.reg [ze 225 131 0,z7 2 4 225]) .ret))
theorem t125:Tryz.f125.body.bind (trC e125)=some c125:=by kernel_rfl
theorem r125:Tryz.f125.results.toList.mapM (trR Tryz.prog)=some [.cell 4 false 2]:=by kernel_rfl
theorem fn125{args:List Value}{M:Mem}{post:Value→Mem→Prop}(hl:args.length≤226)(h:VC e125 c125 (fnQ [.cell 4 false 2] post) (initS args 226) M):Fn Tryz.prog 125 args M post:=
 Fn.of' (E:=e125) Tryz.func125 t125 rfl r125 mixed hl h
noncomputable def e45:Env:=⟨Tryz.prog,[2,3,4],12,[]⟩
noncomputable def c45:C:=
 .seq (.reg [zT 2 0,zT 3 1,zq 4 0 0]) (.seq (.seq (.reg [z9 5 5 3,zM 6 82 5,zV 7 6]) (.cond (.tmp 7) (.seq (.reg [ze 8 83 1,z7 2 4 8]) .ret) .skip)) (.seq (.reg [z9 9 2 2,z9 10 5 3,zL 11 84 9 10,z7 2 4 11]) .ret))
theorem t45:Tryz.f45.body.bind (trC e45)=some c45:=by kernel_rfl
theorem r45:Tryz.f45.results.toList.mapM (trR Tryz.prog)=some [.cell 4 false 2]:=by kernel_rfl
theorem fn45{args:List Value}{M:Mem}{post:Value→Mem→Prop}(hl:args.length≤12)(h:VC e45 c45 (fnQ [.cell 4 false 2] post) (initS args 12) M):Fn Tryz.prog 45 args M post:=
 Fn.of' (E:=e45) Tryz.func45 t45 rfl r45 mixed hl h
noncomputable def e18:Env:=⟨Tryz.prog,[2,3,4,6],22,[(5,5)]⟩
noncomputable def c18:C:=
 .seq (.reg [zT 2 0,zT 3 1,qo 4 0 0 0 0 0 0 0 0 0 0 0 0 0 0 0 0 0 0]) (.seq (.seq (.reg [z9 7 13 2,zM 8 43 7,zV 9 8]) (.cond (.tmp 9) (.seq (.reg [⟨some 10,none,.build [.int .i64 0,.int .i64 0,.int .i64 0,.slice none 0 0,.slice none 0 0,.int .i64 0,.int .i64 0,.int .i64 0,.slice none 0 0,.int .i64 0,.int .i64 0,.int .i64 0,.int .i64 0,.int .i64 0,.int .i64 0] []⟩,z7 15 4 10]) .ret) .skip))
 (.seq (.reg [z9 11 13 2,zM 12 44 11,z3 5 12]) (.seq (.reg [z3 13 5,⟨some 14,none,.build [.pointer none,.bool false] [(0,1,.tmp 13),(1,1,.const (.bool false))]⟩,z9 15 5 3,zL 16 45 14 15,zq 6 0 0,z7 2 6 16]) (.seq (.dreg 5 [z3 17 5,z6 18 17,z9 19 13 18,z9 20 2 6,⟨some 21,none,.build [.int .i64 0,.int .i64 0,.int .i64 0,.slice none 0 0,.slice none 0 0,.int .i64 0,.int .i64 0,.int .i64 0,.slice
 none 0 0,.int .i64 0,.int .i64 0,.int .i64 0,.int .i64 0,.int .i64 0,.int .i64 0] [(0,13,.tmp 19),(13,2,.tmp 20)]⟩,z7 15 4 21]) .ret))))
theorem t18:Tryz.f18.body.bind (trC e18)=some c18:=by kernel_rfl
theorem r18:Tryz.f18.results.toList.mapM (trR Tryz.prog)=some [.cell 4 false 15]:=by kernel_rfl
theorem fn18{args:List Value}{M:Mem}{post:Value→Mem→Prop}(hl:args.length≤22)(h:VC e18 c18 (fnQ [.cell 4 false 15] post) (initS args 22) M):Fn Tryz.prog 18 args M post:=
 Fn.of' (E:=e18) Tryz.func18 t18 rfl r18 mixed hl h
noncomputable def e15:Env:=⟨Tryz.prog,[2,3,4,6],21,[(5,5)]⟩
noncomputable def c15:C:=
 .seq (.reg [zT 2 0,zT 3 1,qo 4 0 0 0 0 0 0 0 0 0 0 0 0 0 0 0 0 0 0]) (.seq (.seq (.reg [z9 7 13 2,zM 8 38 7,zo 9 8 0]) (.cond (.tmp 9) (.seq (.reg [⟨some 10,none,.build [.int .i64 0,.int .i64 0,.int .i64 0,.slice none 0 0,.slice none 0 0,.int .i64 0,.int .i64 0,.int .i64 0,.slice none 0 0,.int .i64 0,.int .i64 0,.int .i64 0,.int .i64 0,.int .i64 0,.int .i64 0] []⟩,z7 15 4 10]) .ret) .skip))
 (.seq (.reg [z9 11 13 2,zM 12 39 11,z3 5 12]) (.seq (.reg [z3 13 5,z9 14 5 3,zL 15 26 13 14,zq 6 0 0,z7 2 6 15]) (.seq (.dreg 5 [z3 16 5,z6 17 16,z9 18 13 17,z9 19 2 6,⟨some 20,none,.build [.int .i64 0,.int .i64 0,.int .i64 0,.slice none 0 0,.slice none 0 0,.int .i64 0,.int .i64 0,.int .i64 0,.slice none 0 0,.int .i64 0,.int .i64 0,.int .i64 0,.int .i64 0,.int .i64 0,.int .i64 0] [(0,13,.tmp
 18),(13,2,.tmp 19)]⟩,z7 15 4 20]) .ret))))
theorem t15:Tryz.f15.body.bind (trC e15)=some c15:=by kernel_rfl
theorem r15:Tryz.f15.results.toList.mapM (trR Tryz.prog)=some [.cell 4 false 15]:=by kernel_rfl
theorem fn15{args:List Value}{M:Mem}{post:Value→Mem→Prop}(hl:args.length≤21)(h:VC e15 c15 (fnQ [.cell 4 false 15] post) (initS args 21) M):Fn Tryz.prog 15 args M post:=
 Fn.of' (E:=e15) Tryz.func15 t15 rfl r15 mixed hl h
noncomputable def e46:Env:=⟨Tryz.prog,[2,3],15,[]⟩
noncomputable def c46:C:=
 .seq (.reg [zT 2 0,zT 3 1,zD 4]) (.seq (.seq (.reg [z4 5 0 2,z5 6 1 5,z4 7 0 3,z5 8 1 7,zW 9 6 8]) (.cond (.tmp 9) (.seq (.reg [zD 4]) .ret) .skip)) (.seq (.seq (.reg [z4 10 1 2,z5 11 1 10,z4 12 1 3,z5 13 1 12,zW 14 11 13]) (.cond (.tmp 14) (.seq (.reg [zD 4]) .ret) .skip)) (.seq (.reg [zZ 4]) .ret)))
theorem t46:Tryz.f46.body.bind (trC e46)=some c46:=by kernel_rfl
theorem r46:Tryz.f46.results.toList.mapM (trR Tryz.prog)=some [.tmp 4]:=by kernel_rfl
theorem fn46{args:List Value}{M:Mem}{post:Value→Mem→Prop}(hl:args.length≤15)(h:VC e46 c46 (fnQ [.tmp 4] post) (initS args 15) M):Fn Tryz.prog 46 args M post:=
 Fn.of' (E:=e46) Tryz.func46 t46 rfl r46 mixed hl h
noncomputable def e19:Env:=⟨Tryz.prog,[2,3],17,[]⟩
noncomputable def c19:C:=
 .seq (.reg [zT 2 0,zT 3 1,zD 4]) (.seq (.seq (.reg [z4 5 0 2,z9 6 13 5,z4 7 0 3,z9 8 13 7,zL 9 20 6 8,zV 10 9]) (.cond (.tmp 10) (.seq (.reg [zD 4]) .ret) .skip)) (.seq (.seq (.reg [z4 11 13 2,z9 12 2 11,z4 13 13 3,z9 14 2 13,zL 15 46 12 14,zV 16 15]) (.cond (.tmp 16) (.seq (.reg [zD 4]) .ret) .skip)) (.seq (.reg [zZ 4]) .ret)))
theorem t19:Tryz.f19.body.bind (trC e19)=some c19:=by kernel_rfl
theorem r19:Tryz.f19.results.toList.mapM (trR Tryz.prog)=some [.tmp 4]:=by kernel_rfl
theorem fn19{args:List Value}{M:Mem}{post:Value→Mem→Prop}(hl:args.length≤17)(h:VC e19 c19 (fnQ [.tmp 4] post) (initS args 17) M):Fn Tryz.prog 19 args M post:=
 Fn.of' (E:=e19) Tryz.func19 t19 rfl r19 mixed hl h
noncomputable def e22:Env:=⟨Tryz.prog,[2],10,[]⟩
noncomputable def c22:C:=
 .seq (.reg [zT 2 0,zC 4 0]) (.seq (.reg [z4 5 0 2,z9 6 13 5,z3 7 1,zL 8 21 6 7,z3 1 8]) (.seq (.reg [z3 9 1,z3 4 9]) .ret))
theorem t22:Tryz.f22.body.bind (trC e22)=some c22:=by kernel_rfl
theorem r22:Tryz.f22.results.toList.mapM (trR Tryz.prog)=some [.tmp 4]:=by kernel_rfl
theorem fn22{args:List Value}{M:Mem}{post:Value→Mem→Prop}(hl:args.length≤10)(h:VC e22 c22 (fnQ [.tmp 4] post) (initS args 10) M):Fn Tryz.prog 22 args M post:=
 Fn.of' (E:=e22) Tryz.func22 t22 rfl r22 mixed hl h
noncomputable def e23:Env:=⟨Tryz.prog,[2],12,[]⟩
noncomputable def c23:C:=
 .seq (.reg [zT 2 0,zC 4 0]) (.seq (.reg [z4 5 0 2,z9 6 13 5,z3 7 1,zL 8 34 6 7,z3 1 8]) (.seq (.seq (.reg [z3 9 1,zc 10 9 0]) (.cond (.tmp 10) (.seq (.reg [zC 4 (-1)]) .ret) .skip)) (.seq (.reg [z3 11 1,z3 4 11]) .ret)))
theorem t23:Tryz.f23.body.bind (trC e23)=some c23:=by kernel_rfl
theorem r23:Tryz.f23.results.toList.mapM (trR Tryz.prog)=some [.tmp 4]:=by kernel_rfl
theorem fn23{args:List Value}{M:Mem}{post:Value→Mem→Prop}(hl:args.length≤12)(h:VC e23 c23 (fnQ [.tmp 4] post) (initS args 12) M):Fn Tryz.prog 23 args M post:=
 Fn.of' (E:=e23) Tryz.func23 t23 rfl r23 mixed hl h
noncomputable def e4:Env:=⟨Tryz.prog,[2,3,6,7,8,12],77,[(5,0),(7,0),(10,0),(24,0)]⟩
noncomputable def c4:C:=
 .seq (.reg [zT 2 0,zT 3 1,zD 4]) (.seq (.reg [zC 5 1048576]) (.seq (.reg [z9 13 13 2,z3 14 5,zL 15 14 13 14,z3 5 15]) (.seq (.seq (.reg [z3 16 5,zc 17 16 0]) (.cond (.tmp 17) (.seq (.reg [zZ 4]) .ret) .skip)) (.seq (.zreg [18,19,20,21,22,6] [z9 18 13 2,z9 20 5 3,qo 6 0 0 0 0 0 0 0 0 0 0 0 0 0 0 0 0 0 0] [zM 19 16 18,zM 21 17 20,zL 22 15 19 21,z7 15 6 22]) (.seq (.reg [z9 23 13 2,zM 24 16
 23,j5 7 0 0 0 0 0 0 0 0 0 0 0 0 0 0 0 0,z7 13 7 24]) (.seq (.zreg [25,26,27,28,8] [z9 25 13 7,z9 26 5 3,qo 8 0 0 0 0 0 0 0 0 0 0 0 0 0 0 0 0 0 0] [zM 27 17 26,zL 28 18 25 27,z7 15 8 28]) (.seq (.seq (.reg [z9 29 15 8,z9 30 15 6,zL 31 19 29 30,zV 32 31]) (.cond (.tmp 32) (.seq (.reg [zD 4]) .ret) .skip)) (.seq (.seq (.zreg [33,34,35,36,37] [z9 33 13 7,z9 34 13 2] [zM 35 16 34,zL 36 20 33 35,
 zV 37 36]) (.cond (.tmp 37) (.seq (.reg [zD 4]) .ret) .skip)) (.seq (.reg [zC 9 1]) (.seq (.reg [z9 38 13 7,z3 39 9,zL 40 21 38 39,z3 9 40]) (.seq (.seq (.reg [z3 41 9,zc 42 41 0,z3 43 42,q9 44 43 15 8,q9 45 43 15 6,qN 46 43 19 44 45,zf 47 43 46,zR 48 43 47]) (.cond (.tmp 48) (.seq (.reg [zD 4]) .ret) .skip)) (.seq (.reg [zC 10 1]) (.seq (.reg [z9 49 15 8,z3 50 10,zL 51 22 49 50,z3 10 51])
 (.seq (.reg [zC 11 1]) (.seq (.reg [z9 52 15 8,z3 53 11,zL 54 23 52 53,z3 11 54]) (.seq (.seq (.reg [z3 55 11,zc 56 55 0]) (.cond (.tmp 56) (.seq (.reg [zD 4]) .ret) .skip)) (.seq (.seq (.reg [z3 57 11,z3 58 10,zW 59 57 58]) (.cond (.tmp 59) (.seq (.reg [zD 4]) .ret) .skip)) (.seq (.zreg [60,61,62,63,64,12] [z9 60 13 2,z9 62 5 3,qo 12 0 0 0 0 0 0 0 0 0 0 0 0 0 0 0 0 0 0] [zM 61 16 60,zM
 63 17 62,zL 64 18 61 63,z7 15 12 64]) (.seq (.seq (.reg [z9 65 15 12,z9 66 15 6,zL 67 19 65 66,zV 68 67]) (.cond (.tmp 68) (.seq (.reg [zD 4]) .ret) .skip)) (.seq (.reg [zC 11 1]) (.seq (.reg [z9 69 15 8,z3 70 11,zL 71 23 69 70,z3 11 71]) (.seq (.seq (.reg [z3 72 11,zc 73 72 0]) (.cond (.tmp 73) (.seq (.reg [zD 4]) .ret) .skip)) (.seq (.seq (.reg [z3 74 11,z3 75 10,zW 76 74 75]) (.cond
 (.tmp 76) (.seq (.reg [zD 4]) .ret) .skip)) (.seq (.reg [zZ 4]) .ret))))))))))))))))))))))))
theorem t4:Tryz.f4.body.bind (trC e4)=some c4:=by kernel_rfl
theorem r4:Tryz.f4.results.toList.mapM (trR Tryz.prog)=some [.tmp 4]:=by kernel_rfl
theorem fn4{args:List Value}{M:Mem}{post:Value→Mem→Prop}(hl:args.length≤77)(h:VC e4 c4 (fnQ [.tmp 4] post) (initS args 77) M):Fn Tryz.prog 4 args M post:=
 Fn.of' (E:=e4) Tryz.func4 t4 rfl r4 mixed hl h
end Go.Proofs.YtpleoapljeffiaaGreatDoor.E
set_option linter.unusedSimpArgs false
set_option maxHeartbeats 8000000
namespace Go.Proofs.YtpleoapljeffiaaGreatDoor.E
open Go
open Classical
theorem place_q{m:Mem}{a:Nat}{x:HX}(h:Has m (hp a x)):Qt Tryz.prog 165 [eV a] m (.int .i64 (frG x.H x.xs.length)):=by
 have hb0:=h.lens
 have hl:=x.len
 have hnc:x.hdr.nc=x.xs.length:=rfl
 refine qt_of (fnA_of (fun h=>fn165 (by simp) h) ?_)
 obtain⟨f1,f2,f3,f4⟩:=frG_ok x.H x.xs.length
 repeat' (first|refine xx ?_|fail)
 refine g_range x.xs.length (fun _:Unit=>[(1,.box [ptr a,.bool false]),(12,.v (.slice x.cd.a x.xs.length x.cd.cap))]) (fun _=>[ro m]) (fun i _=>∀j:Nat,j<i→(x.H.getC j).state≠0) () (fun j hj=>by omega) (fun i _ hi hv=>?_) (fun _ hv=>?_)
 ·obtain⟨y,gy,gc⟩:=HX.at hi
  have gk:=HX.gc gy
  repeat' (first|refine xx ?_|(refine xy ?_ ?_<;>intro hb<;>try(exfalso;omega))|fail)
  ·refine fa_q (by simp) (fun _ _=>rfl) ?_
   congr 1
   rcases Int.lt_or_le (frG x.H x.xs.length) i with e|e
   ·have h1:=(f3 (by omega)).2
    have h2:=hv (frG x.H x.xs.length).toNat (by omega)
    rw[show(((frG x.H x.xs.length).toNat:Nat):Int)=frG x.H x.xs.length by omega]at h2
    exact absurd h1 h2
   ·rcases Int.lt_or_le i (frG x.H x.xs.length)with e2|e2
    ·exact absurd (by rw[gk];assumption) (f4 i hi e2)
    ·omega
  ·refine r_nx () (fun j hj=>?_)
   by_cases e:j=i
   ·subst e;rw[gk];assumption
   ·exact hv j (by omega)
 ·repeat' (first|refine xx ?_|fail)
  refine fa_q (by simp) (fun _ _=>rfl) ?_
  congr 1
  rcases Int.lt_or_le (frG x.H x.xs.length) x.H.cells.length with e|e
  ·have h1:=(f3 e).2
   have h2:=hv (frG x.H x.xs.length).toNat (by omega)
   rw[show(((frG x.H x.xs.length).toNat:Nat):Int)=frG x.H x.xs.length by omega]at h2
   exact absurd h1 h2
  ·omega
theorem v_vib{E:Env}{a:C}{K:St→List Asr→Prop}{Q:X→St→List Asr→Prop}{S:St}{As:List Asr}(J:St→List Asr→Prop)(h:VA E a (seqA J Q) S As)(h2:∀S As,J S As→K S As):VA E a (seqA K Q) S As:=
 v_mono h fun x S As hq=>by cases x<;>first|exact h2 _ _ hq|exact hq
theorem cl_spl{cd:D}{ys:List CS}{i:Nat}{y:CS}{R:List Asr}(hi:ys[i]?=some y):Ent (clA cd ys::R) (slA 8 csv cd ys::slA 6 pv y.d y.c.pairs::prA (ys.eraseIdx i)::R):=cl_open.trans (Ent.cons (ent_of fun m hm=>by
 obtain⟨a,b,d,rfl,h1,h2⟩:=hm
 have:=pr_out hi h1
 obtain⟨c,e,d2,rfl,k1,k2⟩:=star2.1 this
 refine⟨c,e.un b,?_,un_assoc _ _ _,k1,e,b,(disj_un'.1 d).2,rfl,k2,h2⟩
 exact disj_un.2 ⟨d2,(disj_un'.1 d).1⟩))
theorem cl_joi{cd:D}{ys:List CS}{i:Nat}{y':CS}{R:List Asr}(hi:i<ys.length):Ent (slA 8 csv cd (ys.set i y')::slA 6 pv y'.d y'.c.pairs::prA (ys.eraseIdx i)::R) (clA cd (ys.set i y')::R):=(Ent.cons (ent_of fun m hm=>by
 obtain⟨c,r,d,rfl,k1,e,b,d2,rfl,k2,h2⟩:=hm
 obtain⟨d3,d4⟩:=disj_un.1 d
 refine⟨c.un e,b,disj_un'.2 ⟨d4,d2⟩,(un_assoc _ _ _).symm,pr_in hi (star2.2 ⟨c,e,d3,rfl,k1,k2⟩),h2⟩)).trans cl_close
def HX.bnp(x:HX):HX:={x with born:=x.born+1}
theorem make_a{a:Nat}{x:HX}{op n:Int}{ka kb kc:Nat}(h:Sound x.H)(ha:ka≤15)(hb:kb≤255)(hc:kc≤200):FnA Tryz.prog 152 [eV a,.agg #[.int .i64 op,.int .i64 ka,.int .i64 kb,.int .i64 kc,.int .i64 n]] (hp a x) (fun v As=>∃z:HX,v=an (doNew x.H ⟨op,ka,kb,kc,n⟩).code (doNew x.H ⟨op,ka,kb,kc,n⟩).num∧As=hp a z∧z.H=(doNew x.H ⟨op,ka,kb,kc,n⟩).heap):=by
 have hl:=x.len
 have e1:x.hdr.born=x.H.born:=rfl
 refine fnA_of (fun h=>fn152 (by simp) h) ?_
 obtain⟨f1,f2,f3,f4,f5,f6,f7⟩:=fits_ok h (1+kc)
 unfold doNew
 dsimp only
 by_cases c0:x.H.born=1000000000
 ·rw[if_pos c0]
  repeat' (first|refine xx ?_|(refine xy ?_ ?_<;>intro hb<;>try(exfalso;omega))|(refine k_L ?_;(refine k_c ?_;refine a_cq rfl (fun m hm=>codeE_q) ?_))|fail)
  all_goals exact fa_r (fun _ _=>rfl) (Pm.ent pmt) ⟨x,rfl,rfl,rfl⟩
 ·rw[if_neg c0]
  generalize hF:x.H.fitsH (1+kc)=F at*
  have hbn:=f1.r1.born
  by_cases c2:F.used+(1+kc)≤F.room
  ·rw[if_pos c2]
   repeat' (first|refine xx ?_|(refine xy ?_ ?_<;>intro hb<;>try(exfalso;omega))|(refine k_L ?_;first|(refine k_c ?_;refine a_cq rfl (fun m hm=>codeE_q) ?_)|(refine g_c rfl (fits_a (x:=x) (u:=1+(kc:Int)) h (by omega)) (fun v As' hq=>?_);obtain⟨z,rfl,rfl,hz⟩:=hq;rw[hF]at hz;have zb:z.hdr.born=F.born:=congrArg Heap.born hz))|fail)
   ·exfalso;rw[hF]at hb;omega
   subst hz
   have zl:=z.len
   have z16:z.regs.length=16:=f1.r1.regs
   have g3:=f1.r1.cells
   have g2:=f1.r1.room
   have ub:=f1.r3
   have un:=unitsN_nn z.H.cells
   unfold R3 at ub
   obtain⟨p0,p1,p2,p3⟩:=frG_ok z.H z.H.cells.length
   obtain⟨j,hj⟩:=Int.eq_ofNat_of_zero_le p0
   have ef:frG z.H z.xs.length=j:=by rw[←zl];exact hj
   have xph:z.bnp.hdr.phase=z.H.phase:=rfl
   have xha:z.bnp.hdr.hand=z.H.hand:=rfl
   have xnc:z.bnp.hdr.nc=z.xs.length:=rfl
   have xnr:z.bnp.hdr.nr=z.regs.length:=rfl
   have xus:z.bnp.hdr.used=z.H.used:=rfl
   have xxs:z.bnp.xs.length=z.xs.length:=rfl
   have hmk:Marking z.bnp.H↔Marking z.H:=Iff.rfl
   repeat' (first|refine xx ?_|(refine k_L ?_;(refine k_c ?_;refine a_cq rfl (fun m hm=>qt_e (place_q (x:=z) (sep_has hm pmt)) (by rw[ef])) ?_))|fail)
   refine VA.ent (Pm.ent (fin z.bnp)) ?_
   refine v_vib (fun S As=>∃g:D,leA [(2,.box [ptr a,.bool false]),(3,.box [.int .i64 op,.int .i64 ka,.int .i64 kb,.int .i64 kc,.int .i64 n]),(4,.box [.int .i64 0,.int .i64 0]),(5,.v (.int .i64 j)),(6,.box [.int .i64 1,.int .i64 kb,.int .i64 0,.int .i64 0,.int .i64 (z.born+1),.int .i64 0,.int .i64 0,.slice g.a (List.replicate kc Pair.no).length g.cap])] S∧Ent As (slA 6 pv g (List.replicate kc Pair.no)::hp a z.bnp)) ?_ ?_
   ·refine v_hreg (Gs:=[slA 3 wv z.bnp.rd z.bnp.regs,clA z.bnp.cd z.bnp.xs,slA 1 iv z.bnp.gd z.bnp.gray]) [hdA a z.bnp.hdr] pmt ?_
    repeat' (first
     |(refine k_L ?_;first|refine a_p rfl ?_|(refine k_l ?_;refine g_l rfl ?_)|(refine k_st ?_;refine g_sw rfl rfl rfl rfl (Nat.le_of_ble_eq_true rfl) ?_)|(refine k_al ?_;refine a_al ?_)|(refine a_mk (f:=pv) (n:=(kc:Int)) (k:=(kc:Int)) Pair.no pv_len rfl rfl rfl (by omega) (by omega) (fun g hg=>?_)))
     |refine a_n ?_
     |refine s_n ?_
     |refine sk_zero ?_
     |refine sk_succ ?_
     |refine wk_nil ?_
     |refine wk_cons ?_
     |refine t_a ?_ t_n
     |refine t_f ?_ t_n
     |refine t_a ?_ ?_
     |refine t_d ?_
     |refine kl_1 rfl ?_
     |refine kl_0 ?_)
    all_goals exact⟨g,⟨rfl,rfl,rfl,rfl,(by rw[List.length_replicate];rfl),trivial⟩,Pm.ent pmt⟩
   rintro S As ⟨g,hS,hE⟩
   refine VA.ent hE (v_weak _ hS ?_)
   clear hS hE S As
   refine v_seq (v_vib (fun S As=>leA [(2,.box [ptr a,.bool false]),(3,.box [.int .i64 op,.int .i64 ka,.int .i64 kb,.int .i64 kc,.int .i64 n]),(4,.box [.int .i64 0,.int .i64 0]),(5,.v (.int .i64 j)),(6,.box [.int .i64 1,.int .i64 kb,.int .i64 0,.int .i64 0,.int .i64 (z.born+1),.int .i64 (newCol z.H j),.int .i64 0,.slice g.a (List.replicate kc Pair.no).length g.cap])] S∧Ent As (slA 6 pv g (List.replicate kc Pair.no)::hp a z.bnp)) ?_ ?_)
   ·repeat' (first|refine xx ?_|(refine xy ?_ ?_<;>intro hb<;>try(exfalso;omega))|(refine k_L ?_;(refine k_c ?_;refine a_cq rfl (fun m hm=>qt_e (marking_q (x:=z.bnp.hs) (Has.ph (sep_has hm pmt))) (show Value.bool (decide (Marking z.bnp.hs.H))=.bool (decide (Marking z.H))from rfl)) ?_))|fail)
    all_goals refine⟨⟨rfl,rfl,rfl,rfl,?_,trivial⟩,Pm.ent pmt⟩
    all_goals first
     |(rw[show newCol z.H j=2 by unfold newCol;rw[if_pos];unfold Marking at*;omega];rfl)
     |(rw[show newCol z.H j=0 by unfold newCol;rw[if_neg];unfold Marking at*;omega];rfl)
   rintro S As ⟨hS,hE⟩
   refine VA.ent hE (v_weak _ hS ?_)
   clear hS hE S As
   generalize hy:(⟨Cell.fresh kb (z.born+1) (newCol z.H j) kc,g.a,g.cap⟩:CS)=yn
   obtain⟨w,gw⟩:∃w,z.bnp.regs[ka]?=some w:=⟨_,List.getElem?_eq_getElem (by show ka<z.regs.length;omega)⟩
   have hsl:slA 6 pv g (List.replicate kc Pair.no)=slA 6 pv yn.d yn.c.pairs:=by rw[←hy];rfl
   have hcol:0≤newCol z.H j:=by unfold newCol;split<;>omega
   by_cases hje:j=z.xs.length
   ·have hH:HX.H {z.bnp with xs:=z.xs++[yn],used:=z.used+(1+kc),regs:=z.regs.set ka ⟨2,0,j⟩}=z.H.newH (ka:Int).toNat kb (kc:Int).toNat:=by
     unfold Heap.newH
     rw[hj,Int.toNat_natCast,Int.toNat_natCast,Int.toNat_natCast]
     unfold addC
     rw[if_pos (by rw[zl];exact hje),←hy]
     unfold HX.H HX.bnp
     simp only[List.map_append,List.map_cons,List.map_nil,Heap.mk.injEq,true_and,and_true]
     omega
    repeat' (first|refine xx ?_|(refine xy ?_ ?_<;>intro hb<;>try(exfalso;omega))|fail)
    refine VA.ent (Bs:=[slA 8 csv z.bnp.cd z.bnp.xs,prA z.bnp.xs,slA 6 pv g (List.replicate kc Pair.no),slA 3 wv z.bnp.rd z.bnp.regs,slA 1 iv z.bnp.gd z.bnp.gray,hdA a z.bnp.hdr]) ?_ ?_
    ·exact(Pm.ent (As1:=[clA z.bnp.cd z.bnp.xs,slA 6 pv g (List.replicate kc Pair.no),hdA a z.bnp.hdr,slA 3 wv z.bnp.rd z.bnp.regs,slA 1 iv z.bnp.gd z.bnp.gray]) pmt).trans (cl_open.trans (Pm.ent pmt))
    refine v_hreg (Gs:=[slA 8 csv z.bnp.cd z.bnp.xs,prA z.bnp.xs,slA 6 pv g (List.replicate kc Pair.no),slA 3 wv z.bnp.rd z.bnp.regs,slA 1 iv z.bnp.gd z.bnp.gray]) [hdA a z.bnp.hdr] ⟨fun m hm=>hm⟩ ?_
    repeat' (first
     |(refine k_L ?_;first|refine a_p rfl ?_|(refine k_l ?_;refine g_l rfl ?_)|(refine k_bl ?_;refine a_bl rfl ?_))
     |refine a_n ?_
     |refine t_a ?_ t_n
     |refine kl_1 rfl ?_
     |refine kl_0 ?_)
    refine g_ap yn csv_len rfl rfl (by rw[←hy];rfl) (by omega) (hb:=by omega) (fun cd'=>?_)
    repeat' (first
     |(refine k_L ?_;first|(refine k_ad ?_;refine g_ad rfl rfl ?_)|(refine k_l ?_;refine g_l rfl ?_)|(refine k_i ?_;refine g_i rfl rfl ?_)|(refine k_st ?_;refine g_st rfl rfl rfl rfl ?_)|(refine b_w ⟨2,0,j⟩ rfl ?_)|(refine b_p rfl ?_))
     |refine a_n ?_
     |(refine k_V ?_;first|refine v_seq ?_|refine v_reg ?_|refine v_dreg ?_)
     |refine t_f ?_ t_n
     |refine t_d ?_
     |refine kl_1 rfl ?_
     |refine kl_0 ?_)
    refine LA.ent (Bs:=hp a ({z.bnp with xs:=z.xs++[yn],cd:=cd',used:=z.used+(1+kc),regs:=z.regs.set ka ⟨2,0,j⟩}:HX)) ?_ ?_
    ·rw[hsl]
     refine((Pm.ent (As1:=[slA 8 csv cd' (z.xs++[yn]),prA z.xs,slA 6 pv yn.d yn.c.pairs,hdA a _,slA 3 wv z.rd (z.regs.set ka ⟨2,0,j⟩),slA 1 iv z.gd z.gray]) pmt).trans (cl_snoc (y:=yn))).trans (Pm.ent (fin ({z.bnp with xs:=z.xs++[yn],cd:=cd',used:=z.used+(1+kc),regs:=z.regs.set ka ⟨2,0,j⟩}:HX) (h1:=by simp[HX.hdr,Hdr.s_room,Hdr.s_used,Hdr.s_born,Hdr.s_phase,Hdr.s_hand,Hdr.s_sub,Hdr.s_per,Hdr.s_start,Hdr.s_rounds,Hdr.s_forced,Hdr.s_rd,Hdr.s_cd,Hdr.s_gd,HX.bnp]) (h2:=by simp[HX.hdr,Hdr.s_room,Hdr.s_used,Hdr.s_born,Hdr.s_phase,Hdr.s_hand,Hdr.s_sub,Hdr.s_per,Hdr.s_start,Hdr.s_rounds,Hdr.s_forced,Hdr.s_rd,Hdr.s_cd,Hdr.s_gd,HX.bnp]) (e1:=by simp[HX.hdr,Hdr.s_room,Hdr.s_used,Hdr.s_born,Hdr.s_phase,Hdr.s_hand,Hdr.s_sub,Hdr.s_per,Hdr.s_start,Hdr.s_rounds,Hdr.s_forced,Hdr.s_rd,Hdr.s_cd,Hdr.s_gd,HX.bnp])))
    refine g_c rfl (pace_a (x:=({z.bnp with xs:=z.xs++[yn],cd:=cd',used:=z.used+(1+kc),regs:=z.regs.set ka ⟨2,0,j⟩}:HX)) (u:=1+(kc:Int)) (by show Sound (HX.H {z.bnp with xs:=z.xs++[yn],used:=z.used+(1+kc),regs:=z.regs.set ka ⟨2,0,j⟩});rw[hH];exact new_sound f1 (by omega) (by omega) (by omega) (by omega)) (by omega)) (fun v' As' hq=>?_)
    obtain⟨r,rfl,hr⟩:=hq
    repeat' (first|refine xx ?_|(refine k_L ?_;(refine k_c ?_;refine a_cq rfl (fun m hm=>numE_q) ?_))|fail)
    exact fa_r (fun _ _=>rfl) (Pm.ent pmt) ⟨r,rfl,rfl,by rw[hr];exact congrArg (fun K=>K.paceH (1+(kc:Int))) hH⟩
   ·obtain⟨y0,gy0,gc0⟩:=HX.at (x:=z) (i:=j) (by omega)
    have gy0':z.bnp.xs[j]?=some y0:=gy0
    have hH:HX.H {z.bnp with xs:=z.xs.set j yn,used:=z.used+(1+kc),regs:=z.regs.set ka ⟨2,0,j⟩}=z.H.newH (ka:Int).toNat kb (kc:Int).toNat:=by
     unfold Heap.newH
     rw[hj,Int.toNat_natCast,Int.toNat_natCast,Int.toNat_natCast]
     unfold addC
     rw[if_neg (by rw[zl];exact hje),←hy]
     unfold HX.H HX.bnp
     simp only[List.map_set,Heap.mk.injEq,true_and,and_true]
     omega
    repeat' (first|refine xx ?_|(refine xy ?_ ?_<;>intro hb<;>try(exfalso;omega))|fail)
    refine LA.ent (Bs:=[slA 8 csv z.bnp.cd z.bnp.xs,slA 6 pv y0.d y0.c.pairs,prA (z.bnp.xs.eraseIdx j),slA 6 pv g (List.replicate kc Pair.no),hdA a z.bnp.hdr,slA 3 wv z.bnp.rd z.bnp.regs,slA 1 iv z.bnp.gd z.bnp.gray]) ?_ ?_
    ·exact(Pm.ent (As1:=[clA z.bnp.cd z.bnp.xs,slA 6 pv g (List.replicate kc Pair.no),hdA a z.bnp.hdr,slA 3 wv z.bnp.rd z.bnp.regs,slA 1 iv z.bnp.gd z.bnp.gray]) pmt).trans ((cl_spl gy0').trans (Pm.ent pmt))
    refine a_st rfl rfl rfl rfl (up_h (up_sl (j:=0) (e':=yn) csv_len gy0' (by simp[Value.cells]) (by rw[←hy];rfl))) ?_
    repeat' (first
     |(refine k_L ?_;first|(refine k_ad ?_;refine g_ad rfl rfl ?_)|(refine k_l ?_;refine g_l rfl ?_)|(refine k_i ?_;refine g_i rfl rfl ?_)|(refine k_st ?_;refine g_st rfl rfl rfl rfl ?_)|(refine b_w ⟨2,0,j⟩ rfl ?_)|(refine b_p rfl ?_))
     |refine a_n ?_
     |(refine k_V ?_;first|refine v_seq ?_|refine v_reg ?_|refine v_dreg ?_))
    refine LA.ent (Bs:=hp a ({z.bnp with xs:=z.xs.set j yn,used:=z.used+(1+kc),regs:=z.regs.set ka ⟨2,0,j⟩}:HX)) ?_ ?_
    ·rw[hsl]
     refine((Pm.ent (As1:=[slA 8 csv z.cd (z.xs.set j yn),slA 6 pv yn.d yn.c.pairs,prA (z.xs.eraseIdx j),hdA a _,slA 3 wv z.rd (z.regs.set ka ⟨2,0,j⟩),slA 1 iv z.gd z.gray]) pmt).trans (cl_joi (y':=yn) (by omega))).trans (Pm.ent (fin ({z.bnp with xs:=z.xs.set j yn,used:=z.used+(1+kc),regs:=z.regs.set ka ⟨2,0,j⟩}:HX) (h1:=by simp[HX.hdr,Hdr.s_room,Hdr.s_used,Hdr.s_born,Hdr.s_phase,Hdr.s_hand,Hdr.s_sub,Hdr.s_per,Hdr.s_start,Hdr.s_rounds,Hdr.s_forced,Hdr.s_rd,Hdr.s_cd,Hdr.s_gd,HX.bnp]) (h2:=by simp[HX.hdr,Hdr.s_room,Hdr.s_used,Hdr.s_born,Hdr.s_phase,Hdr.s_hand,Hdr.s_sub,Hdr.s_per,Hdr.s_start,Hdr.s_rounds,Hdr.s_forced,Hdr.s_rd,Hdr.s_cd,Hdr.s_gd,HX.bnp]) (e1:=by simp[HX.hdr,Hdr.s_room,Hdr.s_used,Hdr.s_born,Hdr.s_phase,Hdr.s_hand,Hdr.s_sub,Hdr.s_per,Hdr.s_start,Hdr.s_rounds,Hdr.s_forced,Hdr.s_rd,Hdr.s_cd,Hdr.s_gd,HX.bnp])))
    refine g_c rfl (pace_a (x:=({z.bnp with xs:=z.xs.set j yn,used:=z.used+(1+kc),regs:=z.regs.set ka ⟨2,0,j⟩}:HX)) (u:=1+(kc:Int)) (by show Sound (HX.H {z.bnp with xs:=z.xs.set j yn,used:=z.used+(1+kc),regs:=z.regs.set ka ⟨2,0,j⟩});rw[hH];exact new_sound f1 (by omega) (by omega) (by omega) (by omega)) (by omega)) (fun v' As' hq=>?_)
    obtain⟨r,rfl,hr⟩:=hq
    repeat' (first|refine xx ?_|(refine k_L ?_;(refine k_c ?_;refine a_cq rfl (fun m hm=>numE_q) ?_))|fail)
    exact fa_r (fun _ _=>rfl) (Pm.ent pmt) ⟨r,rfl,rfl,by rw[hr];exact congrArg (fun K=>K.paceH (1+(kc:Int))) hH⟩
  ·rw[if_neg c2]
   repeat' (first|refine xx ?_|(refine xy ?_ ?_<;>intro hb<;>try(exfalso;omega))|(refine k_L ?_;first|(refine k_c ?_;refine a_cq rfl (fun m hm=>codeE_q) ?_)|(refine g_c rfl (fits_a (x:=x) (u:=1+(kc:Int)) h (by omega)) (fun v As' hq=>?_);obtain⟨z,rfl,rfl,hz⟩:=hq))|fail)
   all_goals first
    |(exfalso;rw[hF]at hb;omega)
    |exact fa_r (fun _ _=>rfl) (Pm.ent pmt) ⟨z,rfl,rfl,by rw[hz,hF]⟩
    |trace_state
theorem Hue.symm{H K:Heap}(h:Hue H K):Hue K H:=
 ⟨h.len.symm,fun j=>by rw[h.cell j];rfl,h.regs.symm,h.room.symm,h.born.symm,h.per.symm,h.start.symm,h.forced.symm⟩
end Go.Proofs.YtpleoapljeffiaaGreatDoor.E
namespace Go.Proofs.YtpleoapljeffiaaGreatDoor.E
open Go
noncomputable def e3:Env:=⟨Tryz.prog,[6,8,12],74,[]⟩
noncomputable def c3:C:=
 .seq (.reg [zD 4]) (.seq (.reg [zC 5 1048576]) (.seq (.reg [z3 13 1,z3 14 5,zL 15 5 13 14,z3 5 15]) (.seq (.seq (.reg [z3 16 5,zc 17 16 0]) (.cond (.tmp 17) (.seq (.reg [zZ 4]) .ret) .skip)) (.seq (.reg [z3 18 0,z3 19 1,zM 20 7 19,zL 21 6 18 20,jF 6 0 0 0 0 0 0 0 0 0 0 0 0 0 0 0 0 0 0,z7 15 6 21]) (.seq (.reg [z3 22 1,zM 23 7 22,z3 7 23]) (.seq (.reg [z3 24 0,z3 25 7,zL 26 8 24 25,jF 8 0
 0 0 0 0 0 0 0 0 0 0 0 0 0 0 0 0 0,z7 15 8 26]) (.seq (.seq (.reg [z9 27 15 8,z9 28 15 6,zL 29 9 27 28,zV 30 29]) (.cond (.tmp 30) (.seq (.reg [zD 4]) .ret) .skip)) (.seq (.seq (.reg [z3 31 7,z3 32 1,zM 33 7 32,zL 34 10 31 33,zV 35 34]) (.cond (.tmp 35) (.seq (.reg [zD 4]) .ret) .skip)) (.seq (.reg [zC 9 1]) (.seq (.reg [z3 36 7,z3 37 9,zL 38 11 36 37,z3 9 38]) (.seq (.seq (.reg [z3 39 9,zc
 40 39 0,z3 41 40,q9 42 41 15 8,q9 43 41 15 6,qN 44 41 9 42 43,zf 45 41 44,zR 46 41 45]) (.cond (.tmp 46) (.seq (.reg [zD 4]) .ret) .skip)) (.seq (.reg [zC 10 1]) (.seq (.reg [z9 47 15 8,z3 48 10,zL 49 12 47 48,z3 10 49]) (.seq (.reg [zC 11 1]) (.seq (.reg [z9 50 15 8,z3 51 11,zL 52 13 50 51,z3 11 52]) (.seq (.seq (.reg [z3 53 11,zc 54 53 0]) (.cond (.tmp 54) (.seq (.reg [zD 4]) .ret)
 .skip)) (.seq (.seq (.reg [z3 55 11,z3 56 10,zW 57 55 56]) (.cond (.tmp 57) (.seq (.reg [zD 4]) .ret) .skip)) (.seq (.reg [z3 58 0,z3 59 1,zM 60 7 59,zL 61 8 58 60,jF 12 0 0 0 0 0 0 0 0 0 0 0 0 0 0 0 0 0 0,z7 15 12 61]) (.seq (.seq (.reg [z9 62 15 12,z9 63 15 6,zL 64 9 62 63,zV 65 64]) (.cond (.tmp 65) (.seq (.reg [zD 4]) .ret) .skip)) (.seq (.reg [zC 11 1]) (.seq (.reg [z9 66 15 8,z3 67
 11,zL 68 13 66 67,z3 11 68]) (.seq (.seq (.reg [z3 69 11,zc 70 69 0]) (.cond (.tmp 70) (.seq (.reg [zD 4]) .ret) .skip)) (.seq (.seq (.reg [z3 71 11,z3 72 10,zW 73 71 72]) (.cond (.tmp 73) (.seq (.reg [zD 4]) .ret) .skip)) (.seq (.reg [zZ 4]) .ret))))))))))))))))))))))))
theorem t3:Tryz.f3.body.bind (trC e3)=some c3:=by kernel_rfl
end Go.Proofs.YtpleoapljeffiaaGreatDoor.E
namespace Go.Proofs.YtpleoapljeffiaaGreatDoor.E
open Go
open Classical
def CS.s_take(y:CS)(n:Nat):CS:={y with c:={y.c with pairs:=y.c.pairs.take n}}
theorem ent_take{α:Type}{f:α→List Value}{size:Nat}(hs:∀x,(f x).length=size){d:D}{xs:List α}{k:Nat}(hk:k≤xs.length){R:List Asr}:Ent (slA size f d xs::R) (slA size f d (xs.take k)::R):=ent_h fun m h=>sl_take hs h hk
theorem a_kn{P:Program}{l:List I}{post:St→List Asr→Prop}{S:St}{As:List Asr}{p:Prop}(hk:Kn As p)(h:p→LA P l post S As):LA P l post S As:=⟨fun m hm=>(h (hk.out m hm)).out m hm⟩
theorem cutE_a{a:Nat}{x:HX}{i n:Nat}(h:Sound x.H)(hi:i<x.xs.length)(hs:(x.H.getC i).state=1):FnA Tryz.prog 129 [eV a,.int .i64 i,.int .i64 n] (hp a x) (fun v As=>∃z:HX,As=hp a z∧z.H=x.H.cutH i n):=by
 have hl:=x.len
 have hi':i<x.H.cells.length:=by omega
 have hub:=used_b h
 have hpl:=getC_pl h.r2 i
 have hsb:=h.r1.sub
 have hnc:x.hdr.nc=x.xs.length:=rfl
 have hu0:x.hdr.used=x.used:=rfl
 have hs0:x.hdr.sub=x.sub:=rfl
 have hs1:x.H.sub=x.sub:=rfl
 obtain⟨y,gy,gc⟩:=HX.at hi
 have gk:=HX.gc gy
 refine fnA_of (fun h=>fn129 (by simp) h) ?_
 unfold Heap.cutH
 rw[gk]at hpl⊢
 by_cases c:n<y.c.pairs.length
 ·rw[if_pos c]
  have key:∀(z:HX),z={x with xs:=x.xs.set i (y.s_take n),used:=x.used-(y.c.pairs.length-n)}→z.H.walkedI=x.H.walkedI∧z.xs.length=x.xs.length∧z.xs[i]?=some (y.s_take n)∧z.hdr.sub=x.sub∧z.hdr.nc=x.xs.length:=fun z hz=>by
   subst hz
   refine⟨?_,by simp,by simp[hi],rfl,by simp[HX.hdr]⟩
   unfold Heap.walkedI
   have:(HX.H {x with xs:=x.xs.set i (y.s_take n),used:=x.used-(y.c.pairs.length-n)}).cells.length=x.H.cells.length:=by simp[HX.H]
   rw[this];rfl
  have cutE:∀(z:HX) (s:Int),z={x with xs:=x.xs.set i (y.s_take n),used:=x.used-(y.c.pairs.length-n),sub:=s}→s=(if x.H.walkedI=i then min x.H.sub n else x.H.sub)→z.H=x.H.cutN i n:=fun z s hz e=>by
   subst hz
   unfold Heap.cutN Heap.putC
   rw[gk,←e]
   unfold HX.H
   simp only[List.map_set];rfl
  repeat' (first|refine xx ?_|(refine xy ?_ ?_<;>intro hb<;>try(exfalso;omega))|fail)
  refine LA.ent (Bs:=[slA 8 csv x.cd x.xs,slA 6 pv y.d y.c.pairs,prA (x.xs.eraseIdx i),hdA a (x.hdr.s_used (x.used-(y.c.pairs.length-n))),slA 3 wv x.rd x.regs,slA 1 iv x.gd x.gray]) ?_ ?_
  ·exact(Pm.ent (As1:=[clA x.cd x.xs,hdA a (x.hdr.s_used (x.used-(y.c.pairs.length-n))),slA 3 wv x.rd x.regs,slA 1 iv x.gd x.gray]) pmt).trans ((cl_spl gy).trans (Pm.ent pmt))
  refine a_kn (kn_t (kn_h cp_sl)) fun hcap=>?_
  repeat' (first|refine xx ?_|(refine k_L ?_;(refine g_tk (e:=y.d) rfl rfl ?_))|fail)
  have htk:(y.s_take n).c.pairs.length=n:=by simp[CS.s_take];omega
  refine a_st (v:=.slice (y.s_take n).d.a (y.s_take n).c.pairs.length (y.s_take n).d.cap) rfl (by rw[htk];rfl) rfl rfl (up_h (up_sl (j:=7) (e':=y.s_take n) csv_len gy (Nat.le_of_ble_eq_true rfl) rfl)) ?_
  repeat' (first|refine xx ?_|fail)
  obtain⟨k1,k2,k3,k4,k5⟩:=key _ rfl
  refine LA.ent (Bs:=hp a ({x with xs:=x.xs.set i (y.s_take n),used:=x.used-(y.c.pairs.length-n)}:HX)) ?_ ?_
  ·exact(((Pm.ent (As1:=[slA 6 pv y.d y.c.pairs,slA 8 csv x.cd (x.xs.set i (y.s_take n)),prA (x.xs.eraseIdx i),hdA a (x.hdr.s_used (x.used-(y.c.pairs.length-n))),slA 3 wv x.rd x.regs,slA 1 iv x.gd x.gray]) pmt).trans (ent_take pv_len (k:=n) (by omega))).trans (Pm.ent (As1:=[slA 8 csv x.cd (x.xs.set i (y.s_take n)),slA 6 pv (y.s_take n).d (y.s_take n).c.pairs,prA (x.xs.eraseIdx i),hdA a (x.hdr.s_used (x.used-(y.c.pairs.length-n))),slA 3 wv x.rd x.regs,slA 1 iv x.gd x.gray]) pmt)).trans ((cl_joi (y':=y.s_take n) (by omega)).trans (Pm.ent (fin ({x with xs:=x.xs.set i (y.s_take n),used:=x.used-(y.c.pairs.length-n)}:HX) (e1:=by simp[HX.hdr,Hdr.s_room,Hdr.s_used,Hdr.s_born,Hdr.s_phase,Hdr.s_hand,Hdr.s_sub,Hdr.s_per,Hdr.s_start,Hdr.s_rounds,Hdr.s_forced,Hdr.s_rd,Hdr.s_cd,Hdr.s_gd]))))
  have ct:(y.s_take n).c.pairs.length=n:=by simp[CS.s_take];omega
  repeat' (first|refine xx ?_|(refine xy ?_ ?_<;>intro hb<;>try(exfalso;omega))|(refine k_L ?_;(refine k_c ?_;refine a_cq rfl (fun m hm=>qt_e (walked_q (x:=({x with xs:=x.xs.set i (y.s_take n),used:=x.used-(y.c.pairs.length-n)}:HX)) (sep_has hm pmt)) (by rw[k1])) ?_))|fail)
  ·refine fa_n (fun _ _=>rfl) (Pm.ent (fin ({x with xs:=x.xs.set i (y.s_take n),used:=x.used-(y.c.pairs.length-n),sub:=if((y.s_take n).c.pairs.length:Int)<x.sub then((y.s_take n).c.pairs.length:Int)else x.sub}:HX))) ⟨_,rfl,cutE _ _ rfl ?_⟩
   rw[if_pos hb.symm,ct,hs1]
   split<;>omega
  ·refine fa_n (fun _ _=>rfl) (Pm.ent pmt) ⟨_,rfl,cutE _ x.sub rfl ?_⟩
   rw[if_neg (fun e=>hb e.symm)];exact hs1.symm
 ·rw[if_neg c]
  repeat' (first|refine xx ?_|(refine xy ?_ ?_<;>intro hb<;>try(exfalso;omega))|(refine k_L ?_;(refine k_c ?_;refine a_cq rfl (fun m hm=>walked_q (x:=x) (sep_has hm pmt)) ?_))|fail)
  ·have:=walked_sub h hi' hb.symm
   rw[gk,hs1]at this
   exact fa_n (fun _ _=>rfl) (Pm.ent (fin x (e1:=by simp[HX.hdr,Hdr.s_room,Hdr.s_used,Hdr.s_born,Hdr.s_phase,Hdr.s_hand,Hdr.s_sub,Hdr.s_per,Hdr.s_start,Hdr.s_rounds,Hdr.s_forced,Hdr.s_rd,Hdr.s_cd,Hdr.s_gd];omega))) ⟨x,rfl,rfl⟩
  ·exact fa_n (fun _ _=>rfl) (Pm.ent pmt) ⟨x,rfl,rfl⟩
theorem growE_a{a:Nat}{x:HX}{op n:Int}{ka kb kc j0:Nat}(h:Sound x.H)(ha:ka≤15)(hc:kc≤200)(hk0:(x.H.getR ka).kind=2)(hj0:(x.H.getR ka).at_=j0):FnA Tryz.prog 128 [eV a,.int .i64 j0,.agg #[.int .i64 op,.int .i64 ka,.int .i64 kb,.int .i64 kc,.int .i64 n]] (hp a x) (fun v As=>∃z:HX,v=an (doGrow x.H ⟨op,ka,kb,kc,n⟩).code (doGrow x.H ⟨op,ka,kb,kc,n⟩).num∧As=hp a z∧z.H=(doGrow x.H ⟨op,ka,kb,kc,n⟩).heap):=by
 have hl:=x.len
 have hnc:x.hdr.nc=x.xs.length:=rfl
 have hnr:x.hdr.nr=x.regs.length:=rfl
 have h16:x.regs.length=16:=h.r1.regs
 obtain⟨r1,r2⟩:=getR_ok h (r:=ka) (by omega) (by omega)
 obtain⟨b0,b1,b2,b3⟩:=r2 hk0
 rw[hj0]at b0 b1 b2 b3
 obtain⟨y,gy,gc⟩:=HX.at (x:=x) (i:=j0) (by omega)
 have gk:=HX.gc gy
 have hpl:=h.r2.pl (List.mem_of_getElem? gc)
 refine fnA_of (fun h=>fn128 (by simp) h) ?_
 obtain⟨f1,f2,f3,f4,f5,f6,f7⟩:=fits_ok h kc
 obtain⟨q1,q2⟩:=reg_len h f1 f2 f3 (r:=ka) (by omega) (by omega) hk0
 unfold doGrow
 dsimp only
 rw[hj0]at q2⊢
 rw[gk]at q2⊢
 by_cases c1:(y.c.pairs.length:Int)+kc>200
 ·rw[if_pos c1]
  repeat' (first|refine xx ?_|(refine xy ?_ ?_<;>intro hb<;>try(exfalso;omega))|(refine k_L ?_;(refine k_c ?_;refine a_cq rfl (fun m hm=>codeE_q) ?_))|fail)
  all_goals exact fa_r (fun _ _=>rfl) (Pm.ent pmt) ⟨x,rfl,rfl,rfl⟩
 ·rw[if_neg c1]
  generalize hF:x.H.fitsH kc=F at*
  by_cases c2:F.used+kc≤F.room
  ·rw[if_pos c2]
   have key:∀z:HX,z.H=F→∃(wm:Int) (i:Nat) (u:CS),z.regs[ka]?=some ⟨2,wm,i⟩∧z.xs[i]?=some u∧F.getC i=u.c∧(F.getR ka).at_=i∧i<F.cells.length∧z.xs.length=F.cells.length∧z.regs.length=16∧z.hdr.used=F.used:=by
    intro z hz
    have g16:z.regs.length=16:=by have:=f1.r1.regs;rw[←hz]at this;exact this
    obtain⟨v,gv⟩:∃w,z.regs[ka]?=some w:=⟨_,List.getElem?_eq_getElem (by omega)⟩
    have ev:F.getR ka=v:=by rw[←hz];exact getR_at gv
    obtain⟨_,s2⟩:=getR_ok f1 (r:=ka) (by omega) (by omega)
    rw[ev]at q1 s2⊢
    obtain⟨t0,t1,t2,t3⟩:=s2 q1
    obtain⟨i,hi⟩:=Int.eq_ofNat_of_zero_le t0
    obtain⟨vk,vn,vat⟩:=v
    dsimp only at q1 hi t1
    subst q1 hi
    have zl:=z.len
    rw[hz]at zl
    obtain⟨u,gu,gc'⟩:=HX.at (x:=z) (i:=i) (by omega)
    exact⟨vn,i,u,gv,gu,by rw[←hz];exact HX.gc gu,rfl,by omega,by omega,g16,congrArg Heap.used hz⟩
   repeat' (first|(refine k_L ?_;(refine k_l ?_;first|refine a_l rfl (by exact rd_t (rd_h (rd_sl (fun _=>rfl) gv rfl))) ?_|refine g_l rfl ?_))|refine xx ?_|(refine xy ?_ ?_<;>intro hb<;>try(exfalso;omega))|(refine k_L ?_;first|(refine k_c ?_;refine a_cq rfl (fun m hm=>codeE_q) ?_)|(refine g_c rfl (fits_a (x:=x) (u:=(kc:Int)) h (by omega)) (fun v As' hq=>?_);obtain⟨z,rfl,rfl,hz⟩:=hq;obtain⟨wm,i,u,gv,gu,gF,ei,hi,zl,z16,zu⟩:=key z (by rw[hz,hF]);have znc:z.hdr.nc=z.xs.length:=rfl;have znr:z.hdr.nr=z.regs.length:=rfl))|fail)
   ·exfalso;rw[hF]at hb<;>omega
   rw[hF]at hz
   have eL:u.c.pairs.length=y.c.pairs.length:=by rw[←gF,←ei];exact q2
   have i0:(F.getR ka).at_.toNat=i:=by omega
   have zb:=used_b (z:=z) (by rw[hz];exact f1)
   rw[i0]
   refine LA.ent (Bs:=[slA 6 pv u.d u.c.pairs,slA 8 csv z.cd z.xs,prA (z.xs.eraseIdx i),hdA a z.hdr,slA 3 wv z.rd z.regs,slA 1 iv z.gd z.gray]) ?_ ?_
   ·exact(Pm.ent (As1:=[clA z.cd z.xs,hdA a z.hdr,slA 3 wv z.rd z.regs,slA 1 iv z.gd z.gray]) pmt).trans ((cl_spl gu).trans (Pm.ent pmt))
   refine a_az (xs:=u.c.pairs) (e:=u.d) (k:=(kc:Int)) Pair.no pk_h pv_len (by omega) rfl rfl rfl (by omega) rfl (by omega) (fun e'=>?_)
   generalize hy:(⟨{u.c with pairs:=u.c.pairs++List.replicate kc Pair.no},e'.a,e'.cap⟩:CS)=un
   have ed:un.d=e'∧un.c.pairs=u.c.pairs++List.replicate kc Pair.no:=by rw[←hy];exact⟨rfl,rfl⟩
   repeat' (first|refine xx ?_|fail)
   refine a_st rfl rfl rfl rfl (up_t (up_h (up_sl (j:=7) (e':=un) csv_len gu (Nat.le_of_ble_eq_true rfl) (by rw[←hy];rfl)))) ?_
   have zH:HX.H {z with xs:=z.xs.set i un,used:=z.used+kc}=F.growC i kc:=by
    unfold Heap.growC Heap.putC
    rw[gF,←hz,←hy]
    unfold HX.H
    simp only[List.map_set]
   repeat' (first|refine xx ?_|fail)
   refine LA.ent (Bs:=hp a ({z with xs:=z.xs.set i un,used:=z.used+kc}:HX)) ?_ ?_
   ·refine((Pm.ent (As1:=[slA 8 csv z.cd (z.xs.set i un),slA 6 pv un.d un.c.pairs,prA (z.xs.eraseIdx i),hdA a _,slA 3 wv z.rd z.regs,slA 1 iv z.gd z.gray]) (by rw[ed.1,ed.2];exact pmt)).trans (cl_joi (y':=un) (by omega))).trans (Pm.ent (fin ({z with xs:=z.xs.set i un,used:=z.used+kc}:HX) (e1:=by simp[HX.hdr,Hdr.s_room,Hdr.s_used,Hdr.s_born,Hdr.s_phase,Hdr.s_hand,Hdr.s_sub,Hdr.s_per,Hdr.s_start,Hdr.s_rounds,Hdr.s_forced,Hdr.s_rd,Hdr.s_cd,Hdr.s_gd])))
   have zS:Sound (HX.H {z with xs:=z.xs.set i un,used:=z.used+kc}):=by
    rw[zH]
    refine grow_sound f1 hi ?_ ?_ c2
    ·obtain⟨_,s2⟩:=getR_ok f1 (r:=ka) (by omega) (by omega)
     rw[ei]at s2
     exact(s2 q1).2.2.1
    ·rw[gF,eL];omega
   refine g_c rfl (pace_a (x:=({z with xs:=z.xs.set i un,used:=z.used+kc}:HX)) (u:=(kc:Int)) zS (by omega)) (fun v' As' hq=>?_)
   obtain⟨r,rfl,hr⟩:=hq
   repeat' (first|refine xx ?_|(refine k_L ?_;(refine k_c ?_;refine a_cq rfl (fun m hm=>numE_q) ?_))|fail)
   exact fa_r (fun _ _=>rfl) (Pm.ent pmt) ⟨r,rfl,rfl,by rw[hr];exact congrArg (fun K=>Heap.paceH K (kc:Int)) zH⟩
  ·rw[if_neg c2]
   repeat' (first|refine xx ?_|(refine xy ?_ ?_<;>intro hb<;>try(exfalso;omega))|(refine k_L ?_;first|(refine k_c ?_;refine a_cq rfl (fun m hm=>codeE_q) ?_)|(refine g_c rfl (fits_a (x:=x) (u:=(kc:Int)) h (by omega)) (fun v As' hq=>?_);obtain⟨z,rfl,rfl,hz⟩:=hq))|fail)
   all_goals first
    |(exfalso;rw[hF]at hb;omega)
    |exact fa_r (fun _ _=>rfl) (Pm.ent pmt) ⟨z,rfl,rfl,by rw[hz,hF]⟩
    |trace_state
theorem doE_rd{a:Nat}{x:HX}{op n:Int}{ka kb kc:Nat}(h:Sound x.H)(ha:ka≤15)(hb:kb≤15)(ho:op=5∨op=6):FnA Tryz.prog 84 [eV a,.agg #[.int .i64 op,.int .i64 ka,.int .i64 kb,.int .i64 kc,.int .i64 n]] (hp a x) (fun v As=>∃z:HX,v=an (doPair x.H ⟨op,ka,kb,kc,n⟩).code (doPair x.H ⟨op,ka,kb,kc,n⟩).num∧As=hp a z∧z.H=(doPair x.H ⟨op,ka,kb,kc,n⟩).heap):=by
 have hl:=x.len
 have hnc:x.hdr.nc=x.xs.length:=rfl
 have hnr:x.hdr.nr=x.regs.length:=rfl
 have h16:x.regs.length=16:=h.r1.regs
 obtain⟨wa_,ga⟩:∃w,x.regs[ka]?=some w:=⟨_,List.getElem?_eq_getElem (by omega)⟩
 obtain⟨w,gw⟩:∃w,x.regs[kb]?=some w:=⟨_,List.getElem?_eq_getElem (by omega)⟩
 have er:x.H.getR kb=w:=getR_at gw
 obtain⟨r1,r2⟩:=getR_ok h (r:=kb) (by omega) (by omega)
 rw[er]at r1 r2
 refine fnA_of (fun h=>fn84 (by simp) h) ?_
 unfold doPair
 dsimp only
 rw[if_pos ho,er]
 by_cases hk:w.kind=2
 ·obtain⟨b0,b1,b2,b3⟩:=r2 hk
  obtain⟨j,hj⟩:=Int.eq_ofNat_of_zero_le b0
  have et:x.H.toI w=(j:Int):=by rw[toI_used hk b2,hj]
  have hwf:w.kind=2→0≤w.at_∧w.at_<x.H.cells.length:=fun _=>⟨b0,b1⟩
  rw[hj]at b1 b2
  obtain⟨y,gy,gc⟩:=HX.at (x:=x) (i:=j) (by omega)
  have gk:=HX.gc gy
  rw[if_neg (fun e=>e hk),hj,gk,Int.toNat_natCast]
  have hcj:x.H.cells[j]?=some y.c:=gc
  cases hpp:y.c.pairs[kc]? with
  |none=>
   have:=List.getElem?_eq_none_iff.1 hpp
   rcases ho with rfl|rfl
   ·repeat' (first|refine xx ?_|(refine xy ?_ ?_<;>intro hb<;>try(exfalso;omega))|(refine k_L ?_;first|(refine k_q ?_;refine a_q rfl (fun m hm=>qt_e (to_q (x:=x) (sep_has hm pmt) hwf) (by rw[et])) ?_)|(refine k_c ?_;refine a_cq rfl (fun m hm=>codeE_q) ?_))|fail)
    all_goals exact fa_r (fun _ _=>rfl) (Pm.ent pmt) ⟨x,rfl,rfl,rfl⟩
   ·repeat' (first|refine xx ?_|(refine xy ?_ ?_<;>intro hb<;>try(exfalso;omega))|(refine k_L ?_;first|(refine k_q ?_;refine a_q rfl (fun m hm=>qt_e (to_q (x:=x) (sep_has hm pmt) hwf) (by rw[et])) ?_)|(refine k_c ?_;refine a_cq rfl (fun m hm=>codeE_q) ?_))|fail)
    all_goals exact fa_r (fun _ _=>rfl) (Pm.ent pmt) ⟨x,rfl,rfl,rfl⟩
  |some p=>
   have:=(List.getElem?_eq_some_iff.1 hpp).1
   obtain⟨p1,p2,_⟩:=h.r4.pairs j y.c hcj kc p hpp
   have fk:p.key.kind=2→0≤p.key.at_∧p.key.at_<x.H.cells.length:=fun e=>p1.at e
   have fv:p.val.kind=2→0≤p.val.at_∧p.val.at_<x.H.cells.length:=fun e=>p2.at e
   rcases ho with rfl|rfl
   ·repeat' (first|refine xx ?_|(refine xy ?_ ?_<;>intro hb<;>try(exfalso;omega))|(refine k_L ?_;first|(refine k_q ?_;first|refine a_q rfl (fun m hm=>qt_e (to_q (x:=x) (sep_has hm pmt) hwf) (by rw[et])) ?_|refine a_q rfl (fun m hm=>lead_q (x:=x.hs) (w:=p.key) (Has.ph (sep_has hm pmt)) fk) ?_)|(refine k_c ?_;refine a_cq rfl (fun m hm=>numE_q) ?_))|fail)
    all_goals exact fa_r (fun _ _=>rfl) (Pm.ent (fin ({x with regs:=x.regs.set ka (x.H.lead p.key)}:HX) (h1:=by simp[HX.hdr]))) ⟨_,rfl,rfl,rfl⟩
   ·repeat' (first|refine xx ?_|(refine xy ?_ ?_<;>intro hb<;>try(exfalso;omega))|(refine k_L ?_;first|(refine k_q ?_;first|refine a_q rfl (fun m hm=>qt_e (to_q (x:=x) (sep_has hm pmt) hwf) (by rw[et])) ?_|refine a_q rfl (fun m hm=>lead_q (x:=x.hs) (w:=p.val) (Has.ph (sep_has hm pmt)) fv) ?_)|(refine k_c ?_;refine a_cq rfl (fun m hm=>numE_q) ?_))|fail)
    all_goals exact fa_r (fun _ _=>rfl) (Pm.ent (fin ({x with regs:=x.regs.set ka (x.H.lead p.val)}:HX) (h1:=by simp[HX.hdr]))) ⟨_,rfl,rfl,rfl⟩
 ·have et:=toI_no (H:=x.H) hk
  rw[if_pos hk]
  rcases ho with rfl|rfl
  ·repeat' (first|refine xx ?_|(refine k_L ?_;first|(refine k_q ?_;refine a_q rfl (fun m hm=>qt_e (to_q (x:=x) (sep_has hm pmt) (fun e=>absurd e hk)) (by rw[et])) ?_)|(refine k_c ?_;refine a_cq rfl (fun m hm=>codeE_q) ?_))|fail)
   all_goals exact fa_r (fun _ _=>rfl) (Pm.ent pmt) ⟨x,rfl,rfl,rfl⟩
  ·repeat' (first|refine xx ?_|(refine k_L ?_;first|(refine k_q ?_;refine a_q rfl (fun m hm=>qt_e (to_q (x:=x) (sep_has hm pmt) (fun e=>absurd e hk)) (by rw[et])) ?_)|(refine k_c ?_;refine a_cq rfl (fun m hm=>codeE_q) ?_))|fail)
   all_goals exact fa_r (fun _ _=>rfl) (Pm.ent pmt) ⟨x,rfl,rfl,rfl⟩
end Go.Proofs.YtpleoapljeffiaaGreatDoor.E
