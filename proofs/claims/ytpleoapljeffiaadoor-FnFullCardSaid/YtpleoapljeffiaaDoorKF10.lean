/- A part of the proof. Conditions: none. -/
import Derived.Test.YtpleoapljeffiaaDoorKF9
set_option maxRecDepth 100000
set_option linter.unusedVariables false
namespace Go.Proofs.YtpleoapljeffiaaDoor.E
open Go
noncomputable def e46:Env:=⟨Tryd.prog,[30],34,[]⟩
abbrev za(a0:Nat)(a1:Nat)(a2:Nat)(a3:Int):I:=⟨some a0,none,.call a1 [.tmp a2,.const (.int .i64 a3)]⟩
abbrev zd(a0:Nat)(a1:Nat)(a2:Int):I:=⟨none,none,.store a0 (.tmp a1) (.const (.int .i64 a2))⟩
abbrev zq(a0:Nat)(a1:Nat)(a2:Nat)(a3:Nat):I:=⟨some a0,none,.qcall a1 [.tmp a2,.tmp a3]⟩
abbrev qM(a0:Nat)(a1:Nat)(a2:Int):I:=⟨some a0,none,.bin .lss (.tmp a1) (.const (.int .i64 a2))⟩
noncomputable def c46:C:=
 .seq (.reg [z0 4 0,zM 5 35 4,z0 6 5,zD 7 6 0,zJ 8 6 7,z9 9 6 4 8,zA 10 6 1 9,zD 11 6 1,zt 12 6 8 10 11,z9 13 6 5 12,zA 14 6 1 13,zT 15 6 14 0,zE 16 6 15]) (.cond (.tmp 16) (.seq (.reg [z0 17 0,z5 18 17,z3 19 4 18,z4 20 1 19,z0 21 1,zC 22 8 20 21,z3 23 5 22,zd 1 23 1]) (.reg [z0 24 0,z0 25 0,z5 26 25,z3 27 8 26,z4 28 1 27,z0 29 1,⟨some 30,none,.bslice true 1 1 [.int .i64 0] [(0,1,.tmp 29)]⟩,
 ⟨some 31,none,.app 1 8 [.int .i64 0] (.tmp 28) (.tmp 30)⟩,z5 32 24,z3 33 8 32,z6 1 33 31])) .skip)
theorem t46:Tryd.f46.body.bind (trC e46)=some c46:=by kernel_rfl
theorem r46:Tryd.f46.results.toList.mapM (trR Tryd.prog)=some []:=by kernel_rfl
theorem fn46{args:List Value}{M:Mem}{post:Value→Mem→Prop}(hl:args.length≤34)(h:VC e46 c46 (fnQ [] post) (initS args 34) M):Fn Tryd.prog 46 args M post:=
 Fn.of' (E:=e46) Tryd.func46 t46 rfl r46 mixed hl h
noncomputable def e43:Env:=⟨Tryd.prog,[3],25,[]⟩
noncomputable def c43:C:=
 .seq (.reg [zR 3 1,zF 4]) (.seq (.reg [z0 6 0,z8 7 3 3,zP 8 40 6 7,z0 5 8]) (.seq (.seq (.reg [z0 9 5,qM 10 9 0,z0 11 10,zL 12 11 0,zW 13 11 12,zH 14 11 4 13,zK 15 11 1 14,zL 16 11 5,qB 17 11 8 15 16,zH 18 11 5 17,zK 19 11 1 18,zk 20 11 19 0,zO 21 11 20]) (.cond (.tmp 21) (.seq (.reg [zF 4]) .ret) .skip)) (.seq (.reg [z0 22 0,z0 23 5,zP 24 46 22 23]) (.seq (.reg [zX 4]) .ret))))
theorem t43:Tryd.f43.body.bind (trC e43)=some c43:=by kernel_rfl
theorem r43:Tryd.f43.results.toList.mapM (trR Tryd.prog)=some [.tmp 4]:=by kernel_rfl
theorem fn43{args:List Value}{M:Mem}{post:Value→Mem→Prop}(hl:args.length≤25)(h:VC e43 c43 (fnQ [.tmp 4] post) (initS args 25) M):Fn Tryd.prog 43 args M post:=
 Fn.of' (E:=e43) Tryd.func43 t43 rfl r43 mixed hl h
noncomputable def e64:Env:=⟨Tryd.prog,[],24,[]⟩
noncomputable def c64:C:=
 .seq (.reg [z0 4 0,z0 5 0,z0 6 0,z0 7 1,z5 8 4,z3 9 5 8,z6 1 9 7,z5 10 5,z3 11 6 10,zd 1 11 0,z5 12 6,z3 13 7 12,zd 1 13 0]) (.seq (.reg [z0 14 1,z7 15 14 6]) (.cond (.tmp 15) (.reg [z0 16 0,z0 17 0,z5 18 17,z3 19 4 18,z4 20 1 19,zG 21 20,z5 22 16,z3 23 6 22,z6 1 23 21]) .skip))
theorem t64:Tryd.f64.body.bind (trC e64)=some c64:=by kernel_rfl
theorem r64:Tryd.f64.results.toList.mapM (trR Tryd.prog)=some []:=by kernel_rfl
theorem fn64{args:List Value}{M:Mem}{post:Value→Mem→Prop}(hl:args.length≤24)(h:VC e64 c64 (fnQ [] post) (initS args 24) M):Fn Tryd.prog 64 args M post:=
 Fn.of' (E:=e64) Tryd.func64 t64 rfl r64 mixed hl h
noncomputable def e65:Env:=⟨Tryd.prog,[],263,[(5,11),(13,9),(15,11),(24,9),(25,10),(26,9),(27,16),(36,12),(37,10),(38,21)]⟩
noncomputable def c65:C:=
 .seq (.reg [z0 6 0,z5 7 6,z3 8 4 7,z4 9 1 8,zG 10 9,z0 2 10]) (.seq (.reg [z0 11 0,z5 12 11,z3 13 5 12,z4 14 1 13]) (.block 0 (.seq (.reg [z7 16 14 1,z0 15 16]) (.cond (.tmp 15) (.seq (.seq (.reg [z0 17 0,z5 18 17,z3 19 6 18,z4 20 1 19,z0 21 2,zp 22 20 21]) (.cond (.tmp 22) (.seq (.reg [z0 23 0,za 24 64 23 2]) .ret) .skip)) (.seq (.seq (.dreg 11 [z0 25 0,z5 26 25,z3 27 4 26,z4 28 1 27,z0 29
 0,z5 30 29,z3 31 6 30,z4 32 1 31,zC 33 8 28 32,z8 34 8 33,qA 35 33 34]) (.cond (.tmp 35) (.reg [z0 36 0,z0 37 0,z5 38 37,z3 39 6 38,z4 40 1 39,zP 41 46 36 40]) .skip)) (.reg [z0 42 0,z5 43 42,z3 44 6 43,z4 45 1 44,zN 46 45 1,z5 47 42,z3 48 6 47,z6 1 48 46]))) (.seq (.reg [z7 50 14 2,z0 49 50]) (.cond (.tmp 49) (.reg [z0 51 0,zM 52 67 51]) (.seq (.reg [z7 54 14 3,z0 53 54]) (.cond (.tmp 53)
 (.seq (.seq (.reg [z0 55 0,z5 56 55,z3 57 6 56,z4 58 1 57,z0 59 2,zp 60 58 59]) (.cond (.tmp 60) (.seq (.reg [z0 61 0,za 62 64 61 4]) .ret) .skip)) (.seq (.dreg 9 [z0 63 0,z5 64 63,z3 65 4 64,z4 66 1 65,z0 67 0,z5 68 67,z3 69 6 68,z4 70 1 69,zC 71 8 66 70,z0 3 71]) (.seq (.seq (.reg [z0 72 3,z5 73 72,z3 74 0 73,z4 75 1 74,z7 76 75 1,z0 77 76,zD 78 77 3,zJ 79 77 78,z9 80 77 5 79,zA 81 77 1 80,
 zT 82 77 81 0,zE 83 77 82]) (.cond (.tmp 83) (.seq (.dreg 11 [z0 84 0,z5 85 84,z3 86 1 85,z4 87 1 86,z0 88 3,z5 89 88,z8 90 8 89,qA 91 29 90,⟨some 92,none,.bin .sub (.tmp 87) (.tmp 91)⟩,z5 93 84,z3 94 1 93,z6 1 94 92]) (.reg [z0 95 3,⟨some 96,none,.build [.int .i64 0,.int .i64 0,.int .i64 0,.int .i64 0,.int .i64 0,.int .i64 0,.int .i64 0,.slice none 0 0] []⟩,z5 97 95,z6 8 97 96])) (.reg [z0 98
 3,z5 99 98,z3 100 5 99,zd 1 100 0]))) (.reg [z0 101 0,z5 102 101,z3 103 6 102,z4 104 1 103,zN 105 104 1,z5 106 101,z3 107 6 106,z6 1 107 105])))) (.seq (.reg [z7 109 14 4,z0 108 109]) (.cond (.tmp 108) (.reg [z0 110 0,zM 111 68 110]) (.seq (.reg [z7 113 14 5,z0 112 113]) (.cond (.tmp 112) (.seq (.seq (.reg [z0 114 0,z5 115 114,z3 116 6 115,z4 117 1 116,z0 118 2,zp 119 117 118]) (.cond (.tmp
 119) (.seq (.reg [z0 120 0,za 121 64 120 6]) .ret) .skip)) (.seq (.dreg 9 [z0 122 0,z5 123 122,z3 124 4 123,z4 125 1 124,z0 126 0,z5 127 126,z3 128 6 127,z4 129 1 128,zC 130 8 125 129,z0 4 130]) (.seq (.seq (.dreg 10 [z0 131 0,z5 132 131,z3 133 7 132,z4 134 1 133,z0 135 4,z5 136 135,z3 137 7 136,z4 138 1 137,zG 139 138,zQ 140 134 139]) (.cond (.tmp 140) (.seq (.dreg 9 [z0 141 4,z5 142 141,z3
 143 7 142,z4 144 1 143,z0 145 0,z5 146 145,z3 147 7 146,z4 148 1 147,zC 149 6 144 148,z0 5 149]) (.seq (.dreg 16 [z0 150 5,z0 151 5,z0 152 0,z0 153 5,z5 154 153,z3 155 0 154,z8 156 3 155,zq 157 42 152 156,z0 158 0,z0 159 5,z5 160 159,z3 161 3 160,z8 162 3 161,zq 163 42 158 162,z5 164 150,z3 165 0 164,z6 3 165 157,z5 166 151,z3 167 3 166,z6 3 167 163]) (.seq (.reg [z0 168 0,z5 169 168,z3 170 7
 169,z4 171 1 170,zN 172 171 1,z5 173 168,z3 174 7 173,z6 1 174 172]) .ret))) .skip)) (.seq (.reg [z0 175 0,z5 176 175,z3 177 6 176,z4 178 1 177,zN 179 178 1,z5 180 175,z3 181 6 180,z6 1 181 179]) (.reg [z0 182 0,z5 183 182,z3 184 7 183,zd 1 184 0]))))) (.seq (.reg [z7 186 14 6,z0 185 186]) (.cond (.tmp 185) (.seq (.seq (.reg [z0 187 0,z5 188 187,z3 189 6 188,z4 190 1 189,z7 191 190 0]) (.cond
 (.tmp 191) (.seq (.reg [z0 192 0,za 193 64 192 0]) (.seq (.reg [z0 194 0,z0 195 0,z5 196 195,z3 197 11 196,z4 198 1 197,zN 199 198 1,⟨some 200,none,.min (.tmp 199) (.const (.int .i64 1000000000))⟩,z5 201 194,z3 202 11 201,z6 1 202 200]) .ret)) .skip)) (.seq (.reg [z0 203 0,z5 204 203,z3 205 6 204,z4 206 1 205,zx 207 206 1,z5 208 203,z3 209 6 208,z6 1 209 207]) (.seq (.seq (.dreg 12 [z0 210 0,
 z5 211 210,z3 212 4 211,z4 213 1 212,z0 214 0,z5 215 214,z3 216 6 215,z4 217 1 216,zC 218 8 213 217,z3 219 0 218,z4 220 1 219,z7 221 220 2]) (.cond (.tmp 221) (.dreg 10 [z0 222 0,z5 223 222,z3 224 4 223,z4 225 1 224,z0 226 0,z5 227 226,z3 228 6 227,z4 229 1 228,⟨some 230,none,.build [.int .i64 0,.int .i64 0,.int .i64 0,.int .i64 0,.int .i64 0,.int .i64 0,.int .i64 0,.slice none 0 0] []⟩,zC 231 8
 225 229,z6 8 231 230]) .skip)) (.seq (.dreg 21 [z0 232 0,z5 233 232,z3 234 6 233,z4 235 1 234,z0 236 2,zx 237 236 1,zp 238 235 237,z0 239 238,zD 240 239 0,zJ 241 239 240,z9 242 239 4 241,zA 243 239 1 242,zD 244 239 0,zJ 245 239 244,z9 246 239 6 245,zA 247 239 1 246,zt 248 239 8 243 247,z9 249 239 0 248,zA 250 239 1 249,zT 251 239 250 0,zE 252 239 251]) (.cond (.tmp 252) (.reg [z0 253 0,z0 254 0,
 z5 255 254,z3 256 4 255,z4 257 1 256,z0 258 2,zx 259 258 1,⟨some 260,none,.slc 8 (.tmp 257) none (some (.tmp 259))⟩,z5 261 253,z3 262 4 261,z6 1 262 260]) .skip))))) .skip))))))))))))))
theorem t65:Tryd.f65.body.bind (trC e65)=some c65:=by kernel_rfl
theorem r65:Tryd.f65.results.toList.mapM (trR Tryd.prog)=some []:=by kernel_rfl
theorem fn65{args:List Value}{M:Mem}{post:Value→Mem→Prop}(hl:args.length≤263)(h:VC e65 c65 (fnQ [] post) (initS args 263) M):Fn Tryd.prog 65 args M post:=
 Fn.of' (E:=e65) Tryd.func65 t65 rfl r65 mixed hl h
noncomputable def e67:Env:=⟨Tryd.prog,[3,6],90,[(1,11),(2,10),(3,11)]⟩
noncomputable def c67:C:=
 .seq (.seq (.reg [z0 7 0,z5 8 7,z3 9 8 8,z4 10 1 9,zG 11 10,⟨some 12,none,.bin .gtr (.tmp 11) (.const (.int .i64 0))⟩]) (.cond (.tmp 12) (.seq (.dreg 11 [z0 13 0,z5 14 13,z3 15 4 14,z4 16 1 15,z0 17 0,z5 18 17,z3 19 8 18,z4 20 1 19,zm 21 1 20 0,z4 22 1 21,zC 23 8 16 22,z0 2 23]) (.seq (.seq (.dreg 10 [z0 24 0,z5 25 24,z3 26 7 25,z4 27 1 26,z0 28 2,z5 29 28,z3 30 7 29,z4 31 1 30,zG 32 31,zQ 33
 27 32]) (.cond (.tmp 33) (.seq (.dreg 11 [z0 34 2,z5 35 34,z3 36 7 35,z4 37 1 36,z0 38 0,z5 39 38,z3 40 7 39,z4 41 1 40,zC 42 6 37 41,z8 43 6 42,qK 3 0 0 0 0 0 0,z6 6 3 43]) (.seq (.reg [z0 44 0,z3 45 0 3,z8 46 3 45,zP 47 43 44 46]) (.seq (.reg [z0 48 0,z3 49 3 3,z8 50 3 49,zP 51 43 48 50]) (.seq (.reg [z0 52 0,z5 53 52,z3 54 7 53,z4 55 1 54,zN 56 55 1,z5 57 52,z3 58 7 57,z6 1 58 56])
 .ret)))) .skip)) (.seq (.reg [z0 59 2,z5 60 59,z3 61 5 60,zd 1 61 2]) (.seq (.reg [z0 62 0,z0 63 0,z5 64 63,z3 65 8 64,z4 66 1 65,⟨some 67,none,.slc 1 (.tmp 66) (some (.const (.int .i64 1))) none⟩,z5 68 62,z3 69 8 68,z6 1 69 67]) (.seq (.reg [z0 70 0,z5 71 70,z3 72 7 71,zd 1 72 0]) .ret))))) .skip)) (.seq (.reg [zF 4]) (.seq (.seq (.reg [z0 73 0,z5 74 73,z3 75 3 74,z4 76 1 75,zG 77 76,zI 78
 0]) (.block 0 (.loop (.seq (.reg [zQ 79 78 77]) (.seq (.cond (.tmp 79) .skip (.exit 0)) (.seq (.block 1 (.seq (.reg [zC 80 3 76 78,z8 81 3 80,q4 6 0 0 0,z6 3 6 81]) (.seq (.reg [z0 82 0,z8 83 3 6,zP 84 43 82 83]) (.cond (.tmp 84) (.reg [zX 4]) .skip)))) (.reg [zN 85 78 1,z0 78 85]))))))) (.seq (.reg [z0 86 4,zU 87 86]) (.cond (.tmp 87) (.reg [z0 88 0,za 89 64 88 3]) .skip))))
theorem t67:Tryd.f67.body.bind (trC e67)=some c67:=by kernel_rfl
theorem r67:Tryd.f67.results.toList.mapM (trR Tryd.prog)=some []:=by kernel_rfl
theorem fn67{args:List Value}{M:Mem}{post:Value→Mem→Prop}(hl:args.length≤90)(h:VC e67 c67 (fnQ [] post) (initS args 90) M):Fn Tryd.prog 67 args M post:=
 Fn.of' (E:=e67) Tryd.func67 t67 rfl r67 mixed hl h
noncomputable def e68:Env:=⟨Tryd.prog,[5,7],88,[(11,13)]⟩
noncomputable def c68:C:=
 .seq (.reg [z0 8 0,z5 9 8,z3 10 4 9,z4 11 1 10,zG 12 11,z0 2 12,zI 3 (-1)]) (.seq (.seq (.reg [z0 13 0,z5 14 13,z3 15 4 14,z4 16 1 15,zG 17 16,zI 18 0]) (.block 0 (.loop (.seq (.reg [zQ 19 18 17]) (.seq (.cond (.tmp 19) .skip (.exit 0)) (.seq (.block 1 (.seq (.reg [z0 20 18,zC 21 8 16 18,z8 22 8 21,zV 5 0 0 0 0 0 0 0 0 0,z0 4 20,z6 8 5 22]) (.seq (.seq (.reg [z3 23 0 5,z4 24 1 23,z7 25 24
 0]) (.cond (.tmp 25) (.reg [z0 26 2,z0 27 4,⟨some 28,none,.min (.tmp 26) (.tmp 27)⟩,z0 2 28]) .skip)) (.seq (.reg [z3 29 0 5,z4 30 1 29,z7 31 30 1]) (.cond (.tmp 31) (.reg [z0 32 4,z0 3 32]) .skip))))) (.reg [zN 33 18 1,z0 18 33]))))))) (.seq (.seq (.reg [z0 34 2,z0 35 3,qE 36 34 35]) (.cond (.tmp 36) (.seq (.reg [z0 37 0,za 38 64 37 5]) .ret) .skip)) (.seq (.dreg 13 [z0 39 0,z5 40 39,z3
 41 4 40,z4 42 1 41,z0 43 2,z0 44 0,z5 45 44,z3 46 4 45,z4 47 1 46,z0 48 3,zC 49 8 47 48,z8 50 8 49,zC 51 8 42 43,z6 8 51 50]) (.seq (.reg [z0 52 0,z5 53 52,z3 54 4 53,z4 55 1 54,z0 56 3,z0 57 2,⟨some 58,none,.build [.int .i64 0,.int .i64 0,.int .i64 0,.int .i64 0,.int .i64 0,.int .i64 0,.int .i64 0,.slice none 0 0] [(0,1,.const (.int .i64 2)),(6,1,.tmp 57)]⟩,zC 59 8 55 56,z6 8 59 58]) (.seq
 (.reg [z0 60 0,z5 61 60,z3 62 3 61,z4 63 1 62,zG 64 63,zI 65 0]) (.block 2 (.loop (.seq (.reg [zQ 66 65 64]) (.seq (.cond (.tmp 66) .skip (.exit 2)) (.seq (.block 3 (.seq (.reg [z0 67 65,zC 68 3 63 65,z8 69 3 68,q4 7 0 0 0,z0 6 67,z6 3 7 69]) (.seq (.reg [z3 70 0 7,z4 71 1 70,z7 72 71 2,z0 73 72,z9 74 73 2 7,zA 75 73 1 74,zD 76 73 3,⟨some 77,some (73,true),.bin .eql (.tmp 75) (.tmp 76)⟩,zE 78
 73 77]) (.cond (.tmp 78) (.reg [z0 79 0,z5 80 79,z3 81 3 80,z4 82 1 81,z0 83 6,z0 84 2,zC 85 3 82 83,z3 86 2 85,z6 1 86 84]) .skip)))) (.reg [zN 87 65 1,z0 65 87])))))))))))
theorem t68:Tryd.f68.body.bind (trC e68)=some c68:=by kernel_rfl
theorem r68:Tryd.f68.results.toList.mapM (trR Tryd.prog)=some []:=by kernel_rfl
theorem fn68{args:List Value}{M:Mem}{post:Value→Mem→Prop}(hl:args.length≤88)(h:VC e68 c68 (fnQ [] post) (initS args 88) M):Fn Tryd.prog 68 args M post:=
 Fn.of' (E:=e68) Tryd.func68 t68 rfl r68 mixed hl h
noncomputable def e54:Env:=⟨Tryd.prog,[],9,[]⟩
noncomputable def c54:C:=
 .seq (.reg [z0 2 0,z5 3 2,z3 4 5 3,z4 5 1 4,z7 6 5 0]) (.cond (.tmp 6) (.reg [z0 7 0,za 8 64 7 1]) .skip)
theorem t54:Tryd.f54.body.bind (trC e54)=some c54:=by kernel_rfl
theorem r54:Tryd.f54.results.toList.mapM (trR Tryd.prog)=some []:=by kernel_rfl
theorem fn54{args:List Value}{M:Mem}{post:Value→Mem→Prop}(hl:args.length≤9)(h:VC e54 c54 (fnQ [] post) (initS args 9) M):Fn Tryd.prog 54 args M post:=
 Fn.of' (E:=e54) Tryd.func54 t54 rfl r54 mixed hl h
noncomputable def e55:Env:=⟨Tryd.prog,[],21,[]⟩
noncomputable def c55:C:=
 .seq (.reg [zI 4 0]) (.seq (.reg [zI 5 0]) (.seq (.block 0 (.loop (.seq (.seq (.reg [z0 6 5,z0 7 1,zQ 8 6 7,z0 9 8,zD 10 9 0,zJ 11 9 10,z9 12 9 5 11,zA 13 9 1 12,⟨some 14,some (9,true),.bin .neq (.tmp 13) (.const (.int .i64 0))⟩,zE 15 9 14]) (.cond (.tmp 15) .skip (.exit 0))) (.block 1 (.seq (.reg [z0 16 0,zM 17 65 16]) (.reg [z0 18 5,zN 19 18 1,z0 5 19])))))) (.seq (.reg [z0 20 5,z0 4 20])
 .ret)))
theorem t55:Tryd.f55.body.bind (trC e55)=some c55:=by kernel_rfl
theorem r55:Tryd.f55.results.toList.mapM (trR Tryd.prog)=some [.tmp 4]:=by kernel_rfl
theorem fn55{args:List Value}{M:Mem}{post:Value→Mem→Prop}(hl:args.length≤21)(h:VC e55 c55 (fnQ [.tmp 4] post) (initS args 21) M):Fn Tryd.prog 55 args M post:=
 Fn.of' (E:=e55) Tryd.func55 t55 rfl r55 mixed hl h
noncomputable def e66:Env:=⟨Tryd.prog,[],14,[]⟩
noncomputable def c66:C:=
 .seq (.reg [zI 2 0]) (.seq (.reg [zI 3 0]) (.seq (.block 0 (.loop (.seq (.seq (.reg [z0 4 0,z5 5 4,z3 6 5 5,z4 7 1 6,zo 8 7 0]) (.cond (.tmp 8) .skip (.exit 0))) (.block 1 (.seq (.reg [z0 9 0,zM 10 65 9]) (.reg [z0 11 3,zN 12 11 1,z0 3 12])))))) (.seq (.reg [z0 13 3,z0 2 13]) .ret)))
theorem t66:Tryd.f66.body.bind (trC e66)=some c66:=by kernel_rfl
theorem r66:Tryd.f66.results.toList.mapM (trR Tryd.prog)=some [.tmp 2]:=by kernel_rfl
theorem fn66{args:List Value}{M:Mem}{post:Value→Mem→Prop}(hl:args.length≤14)(h:VC e66 c66 (fnQ [.tmp 2] post) (initS args 14) M):Fn Tryd.prog 66 args M post:=
 Fn.of' (E:=e66) Tryd.func66 t66 rfl r66 mixed hl h
noncomputable def e56:Env:=⟨Tryd.prog,[],8,[]⟩
noncomputable def c56:C:=
 .seq (.reg [z0 2 0,zM 3 66 2]) (.seq (.reg [z0 4 0,zM 5 54 4]) (.reg [z0 6 0,zM 7 66 6]))
theorem t56:Tryd.f56.body.bind (trC e56)=some c56:=by kernel_rfl
theorem r56:Tryd.f56.results.toList.mapM (trR Tryd.prog)=some []:=by kernel_rfl
theorem fn56{args:List Value}{M:Mem}{post:Value→Mem→Prop}(hl:args.length≤8)(h:VC e56 c56 (fnQ [] post) (initS args 8) M):Fn Tryd.prog 56 args M post:=
 Fn.of' (E:=e56) Tryd.func56 t56 rfl r56 mixed hl h
end Go.Proofs.YtpleoapljeffiaaDoor.E
set_option linter.unusedSimpArgs false
set_option maxHeartbeats 4000000
namespace Go.Proofs.YtpleoapljeffiaaDoor.E
open Go
open Classical
def HX.enter(x:HX)(p:Int):HX:={x with phase:=p,hand:=if p=6 then x.xs.length else 0,sub:=0}
theorem enter_a{a:Nat}{x:HX}{p:Int}:FnA Tryd.prog 64 [ptr a,.int .i64 p] (hp a x) (fun v As=>As=hp a (x.enter p)):=by
 refine fnA_of (fun h=>fn64 (by simp) h) ?_
 repeat' (first
  |(refine k_L ?_;first|refine a_p rfl ?_|(refine k_l ?_;refine g_l rfl ?_)|(refine k_st ?_;refine g_st rfl rfl rfl rfl ?_))
  |refine a_n ?_
  |(refine k_V ?_;first|refine v_seq ?_|refine v_reg ?_|refine v_skip ?_|(refine v_cd rfl (fun hb=>?_) (fun hb=>?_)<;>try(exfalso;omega))))
 ·subst hb;exact fa_n (fun _ _=>rfl) (Pm.ent (fin _)) rfl
 ·refine fa_n (fun _ _=>rfl) (Pm.ent (fin (x.enter p) (e1:=?_))) rfl
  unfold HX.enter;rw[if_neg hb];rfl
def HX.begin(x:HX):HX:=if x.phase=0 then x.enter 1 else x
theorem begin_a{a:Nat}{x:HX}:FnA Tryd.prog 54 [ptr a] (hp a x) (fun v As=>As=hp a x.begin):=by
 refine fnA_of (fun h=>fn54 (by simp) h) ?_
 unfold HX.begin
 repeat' (first
  |(refine k_L ?_;first|refine a_p rfl ?_|(refine k_l ?_;refine g_l rfl ?_)|(refine g_c rfl enter_a (fun v As' hq=>?_);subst hq))
  |refine a_n ?_
  |(refine k_V ?_;first|refine v_seq ?_|refine v_reg ?_|refine v_skip ?_|(refine v_cd rfl (fun hb=>?_) (fun hb=>?_)<;>try(exfalso;omega))))
 ·rw[if_pos (show x.phase=0 from hb)];exact fa_n (fun _ _=>rfl) (Pm.ent (fin _)) rfl
 ·rw[if_neg (show ¬x.phase=0 from hb)];exact fa_n (fun _ _=>rfl) (Pm.ent (fin _)) rfl
def HX.shade(x:HX)(i:Nat)(y:CS)(e:D):HX:={x with xs:=x.xs.set i (y.s_color 1),gray:=x.gray++[(i:Int)],gd:=e}
theorem shade_a{a:Nat}{x:HX}{i:Nat}{y:CS}(hi:x.xs[i]?=some y)(hg:x.gray.length≤1000000):FnA Tryd.prog 46 [ptr a,.int .i64 i] (hp a x) (fun v As=>∃z:HX,As=hp a z∧if Marking x.H∧y.c.color=0 then ∃e,z=x.shade i y e else z=x):=by
 have hlt:=(List.getElem?_eq_some_iff.1 hi).1
 refine fnA_of (fun h=>fn46 (by simp) h) ?_
 repeat' (first
  |(refine k_L ?_;first|refine a_p rfl ?_|(refine k_g ?_;first|refine a_gy rfl rfl ?_|refine a_gn rfl rfl ?_|(refine a_gd rfl (fun hb=>?_) (fun hb=>?_)<;>try(exfalso;omega)))|(refine k_l ?_;refine g_l rfl ?_)|(refine k_i ?_;refine g_i rfl rfl ?_)|(refine k_st ?_;refine g_st rfl rfl rfl rfl ?_)|(refine k_bl ?_;refine a_bl rfl ?_)|(refine k_c ?_;refine a_cq rfl (fun m hm=>marking_q (ph_g (x:=x) hm)) ?_)|(refine g_ai rfl rfl (by omega) (fun e'=>?_)))
  |refine a_n ?_
  |(refine k_V ?_;first|refine v_seq ?_|refine v_reg ?_|refine v_skip ?_|refine v_cf rfl ?_|(refine v_cd rfl (fun hb=>?_) (fun hb=>?_)<;>try(exfalso;omega))))
 ·refine fa_n (fun _ _=>rfl) (Pm.ent (fin (x.shade i y e'))) ⟨_,rfl,?_⟩
  rw[if_pos ⟨‹_›,‹_›⟩];exact⟨_,rfl⟩
 all_goals refine fa_n (fun _ _=>rfl) (Pm.ent (fin x)) ⟨_,rfl,?_⟩
 all_goals rw[if_neg (by simp_all)]
end Go.Proofs.YtpleoapljeffiaaDoor.E
set_option maxHeartbeats 8000000
namespace Go.Proofs.YtpleoapljeffiaaDoor.E
open Go
open Classical
theorem prA_snoc{ys:List CS}{y:CS}{m:Mem}(h:star [prA ys,slA 6 pv y.d y.c.pairs] m):prA (ys++[y]) m:=by
 unfold prA
 rw[List.map_append]
 obtain⟨a,b,d,e,h1,h2⟩:=star2.1 h
 refine star_append.2 ⟨a,b,d,e,h1,?_⟩
 exact⟨b,emp,disj_emp _,(un_emp _).symm,h2,rfl⟩
theorem cl_snoc{cd:D}{ys:List CS}{y:CS}{R:List Asr}:Ent (slA 8 csv cd (ys++[y])::prA ys::slA 6 pv y.d y.c.pairs::R) (clA cd (ys++[y])::R):=ent_of fun m h=>by
 obtain⟨a,b,d,rfl,h1,h2⟩:=h
 have h2:star ([prA ys,slA 6 pv y.d y.c.pairs]++R) b:=h2
 obtain⟨c,e,d2,rfl,h3,h4⟩:=star_append.1 h2
 refine⟨a.un c,e,?_,(un_assoc _ _ _).symm,star2.2 ⟨a,c,(disj_un.1 d).1,rfl,h1,prA_snoc h3⟩,h4⟩
 exact disj_un'.2 ⟨(disj_un.1 d).2,d2⟩
theorem cl_nil{R:List Asr}{d:D}:Ent (slA 8 csv d []::R) (clA d []::R):=ent_h fun m h=>star2.2 ⟨m,emp,disj_emp _,(un_emp _).symm,h,rfl⟩
theorem pairsN_units{H:Heap}(h:R2 H):pairsN H.cells≤unitsN H.cells:=by
 have key:∀cs:List Cell,(∀c,c∈cs→c.state≠1→c.pairs=[])→pairsN cs≤unitsN cs:=by
  intro cs
  induction cs with
  |nil=>intro _;simp[pairsN,unitsN]
  |cons c r ih=>
   intro h
   have h1:=ih (fun d hd=>h d (by simp[hd]))
   simp only[pairsN,unitsN,List.map_cons,List.sum_cons]at h1⊢
   by_cases e:c.state=1
   ·have:c.units=1+c.pairs.length:=by unfold Cell.units;rw[if_pos e]
    omega
   ·have h2:=h c (by simp) e
    have:c.units=0:=by unfold Cell.units;rw[if_neg e]
    rw[h2];simp only[List.length_nil];omega
 exact key _ fun c hc hu=>by
  obtain⟨i,hi⟩:=List.getElem?_of_mem hc
  exact(h.bare hi hu).2.2.2.2.2
theorem HX.gc{x:HX}{i:Nat}{y:CS}(hi:x.xs[i]?=some y):x.H.getC i=y.c:=getC_nat (by show(x.xs.map (·.c))[i]?=_;rw[List.getElem?_map,hi];rfl)
theorem shade_H{x:HX}{i:Nat}{y:CS}{e:D}:(x.shade i y e).H=x.H.gray1 i y.c:=by
 unfold HX.shade HX.H Heap.gray1
 simp only[List.map_set]
 rfl
theorem shadeH_a{a:Nat}{x:HX}{i:Nat}(hi:i<x.xs.length)(hg:x.gray.length≤1000000):FnA Tryd.prog 46 [ptr a,.int .i64 i] (hp a x) (fun v As=>∃z:HX,As=hp a z∧z.H=x.H.shadeH i∧z.rd=x.rd):=by
 obtain⟨y,gy,_⟩:=HX.at hi
 refine(shade_a gy hg).mono fun v As ⟨z,h1,h2⟩=>⟨z,h1,?_⟩
 unfold Heap.shadeH
 rw[HX.gc gy]
 split at h2
 ·rename_i c
  obtain⟨e,rfl⟩:=h2
  rw[if_pos c];exact⟨shade_H,rfl⟩
 ·rename_i c
  subst h2
  rw[if_neg c];exact⟨rfl,rfl⟩
def HX.nil:HX:=⟨0,0,0,[],[],0,0,0,[],0,0,0,0,⟨none,0⟩,⟨none,0⟩,⟨none,0⟩⟩
def Heap.nil:Heap:=⟨0,0,0,[],[],0,0,0,[],0,0,0,0⟩
theorem toI_used{H:Heap}{w:Word}(hk:w.kind=2)(hu:(H.getC w.at_).state=1):H.toI w=w.at_:=by
 unfold Heap.toI Heap.lead
 rw[if_pos hk,if_neg (fun h=>by have:=h.2;omega)]
theorem toI_no{H:Heap}{w:Word}(hk:w.kind≠2):H.toI w= -1:=by
 unfold Heap.toI
 rw[if_neg hk]
theorem shadeWord_a{a:Nat}{x:HX}{w:Word}(hf:w.kind=2→0≤w.at_∧w.at_<x.H.cells.length)(hu:w.kind=2→(x.H.getC w.at_).state=1)(hg:x.gray.length≤1000000):
 FnA Tryd.prog 43 [ptr a,wa w] (hp a x) (fun v As=>∃z:HX,v=.bool (decide (White x.H w))∧As=hp a z∧z.H=x.H.shadeW w∧z.rd=x.rd):=by
 refine fnA_of (fun h=>fn43 (by simp) h) ?_
 have hl:=x.len
 unfold Heap.shadeW
 by_cases hk:w.kind=2
 ·have hat:=hf hk
  obtain⟨y,gy,gc⟩:=HX.atI (x:=x) hat.1 (by omega)
  obtain⟨k,hk'⟩:=Int.eq_ofNat_of_zero_le hat.1
  rw[if_pos hk]
  have et:=toI_used hk (hu hk)
  have ek:w.at_.toNat=k:=by omega
  rw[ek]at gy⊢
  rw[hk']at et gc
  have hnc:x.hdr.nc=x.xs.length:=rfl
  repeat' (first
   |(refine k_L ?_;first|refine a_p rfl ?_|(refine k_g ?_;refine a_gy rfl rfl ?_)|(refine k_l ?_;refine g_l rfl ?_)|(refine k_i ?_;refine g_i rfl rfl ?_)|(refine k_bx ?_;refine a_bx rfl rfl ?_)|(refine k_c ?_;refine a_cq rfl (fun m hm=>qt_e (to_q (x:=x) (sep_has hm pmt) hf) (by rw[et])) ?_))
   |refine a_n ?_
   |(refine k_V ?_;first|refine v_rv ?_|refine v_seq ?_|refine v_reg ?_|refine v_skip ?_|(refine v_cn rfl (fun hb=>?_) (fun hb=>?_)<;>try(exfalso;omega)))
   |refine s_r ?_)
  ·refine fa_r (fun _ _=>rfl) (Pm.ent (fin x)) ⟨_,ret_f (fun h=>absurd (by have:=h.2;rw[hk',gc]at this;exact this) ‹_›),rfl,?_,rfl⟩
   unfold Heap.shadeH
   rw[gc,if_neg (fun h=>absurd h.2 ‹_›)]
  ·refine g_c rfl (shadeH_a (x:=x) (i:=k) (by omega) hg) (fun v As' hq=>?_)
   obtain⟨z,rfl,hz,hzr⟩:=hq
   repeat' (first
    |refine a_n ?_
    |(refine k_V ?_;refine v_rv ?_))
   refine fa_r (fun _ _=>rfl) (Pm.ent (fin z)) ⟨_,ret_t ⟨hk,by rw[hk',gc];assumption⟩,rfl,hz,hzr⟩
 ·rw[if_neg hk]
  have et:=toI_no (H:=x.H) hk
  repeat' (first
   |(refine k_L ?_;first|refine a_p rfl ?_|(refine k_g ?_;refine a_gn rfl rfl ?_)|(refine k_bx ?_;refine a_bx rfl rfl ?_)|(refine k_c ?_;refine a_cq rfl (fun m hm=>qt_e (to_q (x:=x) (sep_has hm pmt) hf) (by rw[et])) ?_))
   |refine a_n ?_
   |(refine k_V ?_;first|refine v_rv ?_|refine v_seq ?_|refine v_reg ?_|refine v_ct rfl ?_)
   |refine s_r ?_)
  exact fa_r (fun _ _=>rfl) (Pm.ent (fin x)) ⟨_,ret_f (fun h=>absurd h.1 hk),rfl,rfl,rfl⟩
theorem enter_H{x:HX}{p:Int}:(x.enter p).H=x.H.enterH p:=by
 unfold HX.enter HX.H Heap.enterH
 simp only[List.length_map]
theorem shadeL_no:∀(ws:List Word) {H:Heap},(∀w,w∈ws→Formed H w∧¬White H w)→H.shadeL ws=H
 |[],_,_=>rfl
 |w::r,H,h=>by
  have e:H.shadeL (w::r)=(H.shadeW w).shadeL r:=rfl
  rw[e,shadeW_no (h w (by simp)).2 (h w (by simp)).1]
  exact shadeL_no r (fun v hv=>h v (by simp[hv]))
theorem shadeL_snoc(H:Heap)(ws:List Word)(w:Word):H.shadeL (ws++[w])=(H.shadeL ws).shadeW w:=by unfold Heap.shadeL;rw[List.foldl_append];rfl
theorem some_white{H:Heap}{ws:List Word}{w:Word}(hw:∀v,v∈ws++[w]→Formed H v∧(v.kind=2→(H.getC v.at_).state=1)):((∃v,v∈ws++[w]∧White H v)↔(∃v,v∈ws∧White H v)∨White (H.shadeL ws) w):=by
 obtain⟨s,_⟩:=shadeL_ok ws H (fun v hv=>hw v (by simp[hv]))
 constructor
 ·rintro⟨v,hv,hwh⟩
  rcases List.mem_append.1 hv with hv|hv
  ·exact .inl ⟨v,hv,hwh⟩
  ·simp at hv;subst hv
   by_cases e:∃u,u∈ws∧White H u
   ·exact .inl e
   ·right
    rw[shadeL_no ws (fun u hu=>⟨(hw u (by simp[hu])).1,fun h'=>e ⟨u,hu,h'⟩⟩)]
    exact hwh
 ·rintro(⟨v,hv,hwh⟩|hwh)
  ·exact⟨v,by simp[hv],hwh⟩
  ·refine⟨w,by simp,?_⟩
   by_cases e:White H w
   ·exact e
   ·exact absurd hwh (s.white e)
theorem sound_gray{x:HX}(h:Sound x.H):x.gray.length≤1000000∧x.xs.length≤8000∧x.regs.length=16:=by
 have h1:=h.r1.gray
 have h2:=h.r1.cells
 have h3:=h.r1.room
 have h4:=x.len
 have h5:x.H.gray=x.gray:=rfl
 have h6:=h.r1.regs
 have h7:x.H.regs=x.regs:=rfl
 rw[h5]at h1;rw[h7]at h6
 omega
theorem ent_d1{d:D}{xs:List Int}{R:List Asr}(hk:1≤xs.length):Ent (slA 1 iv d xs::R) (slA 1 iv (d.drop 1 1) (xs.drop 1)::R):=ent_h fun m h=>sl_drop iv_len h hk
theorem mark_a{a:Nat}{x:HX}(h:Sound x.H)(hph:x.H.phase=2):FnA Tryd.prog 67 [ptr a] (hp a x) (fun v As=>∃z:HX,As=hp a z∧z.H=x.H.markU):=by
 obtain⟨q1,q2,q3⟩:=sound_gray h
 have hl:=x.len
 have hnc:x.hdr.nc=x.xs.length:=rfl
 have hng:x.hdr.ng=x.gray.length:=rfl
 have hgr:x.H.gray=x.gray:=rfl
 have hm:Marking x.H:=.inr hph
 refine fnA_of (fun h=>fn67 (by simp) h) ?_
 unfold Heap.markU
 cases hg:x.gray with
 |nil=>
  have hnz:x.hdr.ng=0:=by rw[hng,hg];rfl
  rw[hgr,hg]
  simp only
  have hr:=fun w hw=>reg_used h.r4 (w:=w) hw
  have hr':∀w,w∈x.H.regs→Formed x.H w∧(w.kind=2→(x.H.getC w.at_).state=1):=fun w hw=>⟨(hr w hw).1,fun hk=>((hr w hw).2 hk).1⟩
  repeat' (first
   |(refine k_L ?_;first|refine a_p rfl ?_|(refine k_l ?_;refine g_l rfl ?_))
   |refine a_n ?_
   |(refine k_V ?_;first|refine v_seq ?_|refine v_reg ?_|refine v_skip ?_|(refine v_cd rfl (fun hb=>?_) (fun hb=>?_)<;>try(exfalso;omega)))
   |refine s_n ?_)
  refine g_range x.regs.length (fun q:HX×Bool=>[(0,.v (ptr a)),(4,.v (.bool q.2)),(76,.v (.slice x.rd.a x.regs.length x.rd.cap))]) (fun q=>hp a q.1) (fun i q=>q.1.H=x.H.shadeL (x.regs.take i)∧q.1.rd=x.rd∧(q.2=true↔∃w,w∈x.regs.take i∧White x.H w)) ((x,false):HX×Bool) ⟨rfl,rfl,by simp⟩ (fun i q hi hv=>?_) (fun q hv=>?_)
  ·obtain⟨z,b⟩:=q
   obtain⟨v1,v2,v3⟩:=hv
   simp only at v1 v2 v3
   obtain⟨w,gw⟩:∃w,x.regs[i]?=some w:=⟨_,List.getElem?_eq_getElem hi⟩
   have hsub:∀v,v∈x.regs.take i→Formed x.H v∧(v.kind=2→(x.H.getC v.at_).state=1):=fun v hv=>hr' v (List.mem_of_mem_take hv)
   obtain⟨s,_⟩:=shadeL_ok _ _ hsub
   rw[←v1]at s
   have hw:=hr' w (List.mem_of_getElem? gw)
   have zr:z.regs=x.regs:=s.regs
   have gz:z.regs[i]?=some w:=by rw[zr];exact gw
   have hzg:=(sound_gray (s.sound h)).1
   have hsn:∀v,v∈x.regs.take i++[w]→Formed x.H v∧(v.kind=2→(x.H.getC v.at_).state=1):=fun v hv=>by
    rcases List.mem_append.1 hv with hv|hv
    ·exact hsub v hv
    ·simp at hv;subst hv;exact hw
   have hsw:=some_white hsn
   have htk:x.regs.take (i+1)=x.regs.take i++[w]:=by rw[List.take_add_one,gw];rfl
   rw[←v2]
   repeat' (first
    |(refine k_L ?_;first|refine a_p rfl ?_|(refine k_i ?_;refine g_i rfl rfl ?_)|(refine k_ls ?_;refine g_ls rfl ?_)|(refine k_st ?_;refine g_sw rfl rfl rfl rfl (Nat.le_of_ble_eq_true rfl) ?_)|(refine k_al ?_;refine a_al ?_)|(refine g_c rfl (shadeWord_a (x:=z) (w:=w) (fun hk=>by have:=hw.1.at hk;rw[s.len];exact this) (fun hk=>by rw[(s.cell _).1];exact hw.2 hk) hzg) (fun v As' hq=>?_);obtain⟨u,rfl,rfl,hu,hur⟩:=hq))
    |refine a_n ?_
    |(refine k_V ?_;first|refine v_seq ?_|refine v_reg ?_|refine v_skip ?_|(refine v_cd rfl (fun hb=>?_) (fun hb=>?_)<;>try(exfalso;omega)))
    |refine sk_zero ?_
    |refine sk_succ ?_
    |refine wk_nil ?_
    |refine wk_cons ?_)
   ·refine r_nx ((u,true):HX×Bool) ⟨by rw[hu,htk,shadeL_snoc,v1],hur,?_⟩
    rw[htk]
    simp only[true_iff]
    exact hsw.2 (.inr (by rw[←v1];assumption))
   ·refine r_nx ((u,b):HX×Bool) ⟨by rw[hu,htk,shadeL_snoc,v1],hur,?_⟩
    rw[htk]
    refine v3.trans ⟨fun h=>hsw.2 (.inl h),fun h=>?_⟩
    rcases hsw.1 h with h|h
    ·exact h
    ·rw[←v1]at h;contradiction
  ·obtain⟨z,b⟩:=q
   obtain⟨v1,v2,v3⟩:=hv
   simp only at v1 v2 v3
   rw[List.take_of_length_le (Nat.le_refl _)]at v1 v3
   cases b with
   |true=>
    repeat' (first
     |(refine k_L ?_;refine a_p rfl ?_)
     |refine a_n ?_
     |(refine k_V ?_;first|refine v_seq ?_|refine v_reg ?_|refine v_skip ?_|refine v_cf rfl ?_))
    exact fa_n (fun _ _=>rfl) (Pm.ent (fin z)) ⟨z,rfl,by rw[if_pos (show ∃w,w∈x.H.regs∧White x.H w from v3.1 rfl)];exact v1⟩
   |false=>
    have hno:¬∃w,w∈x.regs∧White x.H w:=fun h=>by have:=v3.2 h;cases this
    have hz:z.H=x.H:=by rw[v1];exact shadeL_no _ (fun w hw=>⟨(hr' w hw).1,fun h'=>hno ⟨w,hw,h'⟩⟩)
    repeat' (first
     |(refine k_L ?_;first|refine a_p rfl ?_|(refine g_c rfl (enter_a (x:=z)) (fun v As' hq=>?_);subst hq))
     |refine a_n ?_
     |(refine k_V ?_;first|refine v_seq ?_|refine v_reg ?_|refine v_ct rfl ?_))
    exact fa_n (fun _ _=>rfl) (Pm.ent (fin (z.enter 3))) ⟨_,rfl,by rw[if_neg (show ¬∃w,w∈x.H.regs∧White x.H w from hno),enter_H,hz]⟩
 |cons g r=>
  rw[hgr,hg]
  simp only
  have hn1:x.hdr.ng=r.length+1:=by rw[hng,hg];rfl
  obtain⟨g1,g2,g3⟩:=h.r5.mark hm
  obtain⟨b0,b1,b2,b3⟩:=g2 g (by rw[hgr,hg];simp)
  obtain⟨y,gy,gc⟩:=HX.atI (x:=x) b0 (by omega)
  obtain⟨gn,hgn⟩:=Int.eq_ofNat_of_zero_le b0
  have gg:x.gray[(0:Int).toNat]?=some g:=by rw[hg];rfl
  have hs0:=h.r1.sub
  have hsub:x.hdr.sub=x.H.sub:=rfl
  rw[gc]
  by_cases hlt:x.H.sub<y.c.pairs.length
  ·obtain⟨p,gp⟩:∃p,y.c.pairs[x.H.sub.toNat]?=some p:=⟨_,List.getElem?_eq_getElem (by omega)⟩
   have gp':y.c.pairs[x.hdr.sub.toNat]?=some p:=gp
   rw[gp]
   simp only
   have hgg:x.H.gray=g::r:=by rw[hgr,hg]
   have gpc:(x.H.getC g).pairs[x.H.sub.toNat]?=some p:=by rw[gc];exact gp
   obtain⟨⟨k1,k2⟩,w1,w2⟩:=markP h hph hgg gpc
   obtain⟨s1,_⟩:=shadeW_ok k1 k2
   obtain⟨s2,_⟩:=markP2 h hph hgg gpc
   repeat' (first
    |(refine k_L ?_;first|refine a_p rfl ?_|(refine k_l ?_;refine g_l rfl ?_)|(refine k_i ?_;refine g_i rfl rfl ?_)|(refine k_ls ?_;refine g_ls rfl ?_)|(refine k_st ?_;refine g_sw rfl rfl rfl rfl (Nat.le_of_ble_eq_true rfl) ?_)|(refine k_al ?_;refine a_al ?_))
    |refine a_n ?_
    |(refine k_V ?_;first|refine v_seq ?_|refine v_reg ?_|refine v_dreg ?_|(refine v_cd rfl (fun hb=>?_) (fun hb=>?_)<;>try(exfalso;omega)))
    |refine sk_zero ?_
    |refine sk_succ ?_
    |refine wk_nil ?_
    |refine wk_cons ?_)
   refine g_c rfl (shadeWord_a (x:=x) (w:=p.key) (fun hk=>k1.at hk) k2 q1) (fun v As' hq=>?_)
   obtain⟨z,rfl,rfl,hz,hzr⟩:=hq
   have zg:=(sound_gray (x:=z) (by rw[hz];exact s1.sound h)).1
   repeat' (first
    |(refine k_L ?_;refine a_p rfl ?_)
    |refine a_n ?_
    |(refine k_V ?_;first|refine v_seq ?_|refine v_reg ?_))
   refine g_c rfl (shadeWord_a (x:=z) (w:=p.val) (fun hk=>by rw[hz,s1.len];exact w1.at hk) (fun hk=>by rw[hz,(s1.cell _).1];exact w2 hk) zg) (fun v As' hq=>?_)
   obtain⟨u,rfl,rfl,hu,hur⟩:=hq
   have us:u.sub=x.H.sub:=by
    have:u.H.sub=x.H.sub:=by rw[hu,hz];exact s2.sub
    exact this
   repeat' (first
    |(refine k_L ?_;first|(refine k_ad ?_;refine g_ad rfl rfl ?_)|refine a_p rfl ?_|(refine k_l ?_;refine g_l rfl ?_)|(refine k_st ?_;refine g_st rfl rfl rfl rfl ?_))
    |refine a_n ?_
    |(refine k_V ?_;first|refine v_seq ?_|refine v_reg ?_|refine v_ret ?_)
    |refine s_r ?_)
   refine fa_r (fun _ _=>rfl) (Pm.ent (fin {u with sub:=u.sub+1})) ⟨_,rfl,?_⟩
   show({u.H with sub:=u.sub+1}:Heap)=_
   rw[us,hu,hz]
  ·have gp:y.c.pairs[x.H.sub.toNat]?=none:=List.getElem?_eq_none (by omega)
   rw[gp]
   simp only
   repeat' (first
    |(refine k_L ?_;first|refine a_p rfl ?_|(refine k_l ?_;refine g_l rfl ?_)|(refine k_i ?_;refine g_i rfl rfl ?_)|(refine k_st ?_;refine g_st rfl rfl rfl rfl ?_)|(refine a_dr rfl rfl (kn_t (kn_t (kn_t (kn_h pl_sl)))) (by omega) (kn_t (kn_t (kn_t (kn_h cp_sl)))) ?_))
    |refine a_n ?_
    |(refine k_V ?_;first|refine v_seq ?_|refine v_reg ?_|refine v_dreg ?_|refine v_ret ?_|refine v_skip ?_|(refine v_cd rfl (fun hb=>?_) (fun hb=>?_)<;>try(exfalso;omega)))
    |refine s_r ?_)
   refine fa_r (As':=hp a ({x with xs:=x.xs.set g.toNat (y.s_color 2),gd:=x.gd.drop 1 1,gray:=x.gray.drop 1,sub:=0}:HX)) (fun _ _=>rfl) ?_ ⟨_,rfl,?_⟩
   ·refine Ent.trans (Pm.ent (As1:=[slA 1 iv x.gd x.gray,hdA a ((x.hdr.s_gd (x.gd.drop 1 1) (x.gray.length-1)).s_sub 0),slA 3 wv x.rd x.regs,clA x.cd (x.xs.set g.toNat (y.s_color 2))]) pmt) ?_
    refine(ent_d1 (by rw[hg];simp)).trans ?_
    exact Pm.ent (fin _ (h3:=by simp[HX.hdr,Hdr.s_gd,Hdr.s_sub]))
   ·unfold HX.H Heap.black
    simp only[List.map_set,hg,List.drop_one,List.tail_cons,hgr]
    congr 2
    have gc':(Heap.mk x.room x.used x.born x.regs (x.xs.map (·.c)) x.phase x.hand x.sub (g::r) x.per x.start x.rounds x.forced).getC g=y.c:=gc
    rw[gc']
    rfl
theorem disj_le{a a' c:Mem}{b:Nat}{k k':Bk}(d:Disj a c)(hb:a b=some k)(l:a'.le (a.upd b k')):Disj a' c:=fun x=>by
 by_cases e:x=b
 ·subst e
  rcases d x with h|h
  ·rw[hb]at h;cases h
  ·exact .inr h
 ·rcases d x with h|h
  ·left
   cases h':a' x with
   |none=>rfl
   |some k2=>
    have:=l x k2 h'
    rw[Mem.upd_ne _ _ e,h]at this;cases this
  ·exact .inr h
theorem a_c0{P:Program}{S:St}{As R:List Asr}{post:St→List Asr→Prop}{r:List I}{x y:Operand}{cd:D}{ys:List CS}{i:Nat}{c:CS}{v:Value}(y':CS)(hi:ys[i]?=some c)(hd:y'.d=⟨none,0⟩)(hp0:y'.c.pairs=[])(hx:lc S x=some (.mm cd.b (cd.o+i*8)))(hy:ev S y=some v)(hn:v.cells.size=8)(hpl:plainCells v.cells.toList=true)(hv:v.cells.toList=csv y')
 (hp:LA P r post S (clA cd (ys.set i y')::R)) (hm:Pk As (clA cd ys) R:=by(fail_if_success apply pk_bad);(repeat(first|exact pk_h|apply pk_t));fail_if_success focus skip):LA P (⟨none,none,.store 8 x y⟩::r) post S As:=
 ⟨fun m hm'=>by
   obtain⟨a,c',dj,rfl,hA,hR⟩:=hm.out m hm'
   obtain⟨row,g1,g2,m',l,s⟩:=up_c0 hi hd hp0 a hA
   rw[←hv]at g2 l
   have g2':cd.o+i*8+8≤row.length:=by simp only[Array.length_toList]at g2;omega
   refine vl_stm hx (un_l g1) hy hn hpl g2' ?_
   have dj':=disj_le dj g1 l
   refine hp.at (m:=m'.un c') ⟨m',c',dj',rfl,s,hR⟩ ?_
   rw[un_upd_l]
   intro x k hk
   cases h:m' x with
   |some k'=>rw[un_l h]at hk;cases hk;exact un_l (l x _ h)
   |none=>
    rw[un_n h]at hk
    have:Disj (a.upd cd.b (.row (wr row (cd.o+i*8) v.cells.toList))) c':=disj_le dj g1 (Mem.le_refl _)
    exact un_r this hk⟩
theorem u_cell{cd:D}{ys:List CS}{i:Nat}{y y':CS}(hi:ys[i]?=some y):UpA (slA 8 csv cd ys) cd.b (cd.o+i*8) (csv y') (slA 8 csv cd (ys.set i y')):=up_sl (j:=0) csv_len hi (by simp[csv_len]) (by rw[wr_all _ _ (by rw[csv_len,csv_len])])
theorem pr_move{ys:List CS}{f u:Nat}{yf yu g:CS}(hf:ys[f]?=some yf)(hu:ys[u]?=some yu)(hfu:f<u)(hd:g.d=⟨none,0⟩)(hp:g.c.pairs=[]){R:List Asr}:Ent (prA ys::R) (prA ((ys.set f yu).set u g)::R):=⟨fun m hm=>by
 obtain⟨a,c,dj,rfl,h1,h2⟩:=hm
 obtain⟨a1,a2,d1,rfl,k1,k2⟩:=star2.1 (pr_out hu h1)
 have hf':(ys.eraseIdx u)[f]?=some yf:=by rw[List.getElem?_eraseIdx,if_pos hfu];exact hf
 obtain⟨b1,b2,d2,rfl,k3,k4⟩:=star2.1 (pr_out hf' k2)
 have hlu:=(List.getElem?_eq_some_iff.1 hu).1
 have hlf:=(List.getElem?_eq_some_iff.1 hf').1
 have s1:prA ((ys.eraseIdx u).set f yu) (a1.un b2):=pr_in hlf (star2.2 ⟨a1,b2,(disj_un.1 d1).2,rfl,k1,k4⟩)
 have e:(ys.eraseIdx u).set f yu=(ys.set f yu).eraseIdx u:=by
  apply List.ext_getElem?
  intro j
  rw[List.getElem?_set,List.getElem?_eraseIdx,List.getElem?_eraseIdx,List.getElem?_set,List.getElem?_set]
  by_cases e1:f=j
  ·subst e1
   rw[if_pos rfl,if_pos hfu,if_pos rfl,if_pos hlf,if_pos (by omega)]
  ·rw[if_neg e1]
   by_cases e2:j<u
   ·rw[if_pos e2,if_pos e2,if_neg e1]
   ·rw[if_neg e2,if_neg e2,if_neg (by omega)]
 rw[e]at s1
 have s2:prA ((ys.set f yu).set u g) (a1.un b2):=pr_in (by simpa using hlu) (star2.2 ⟨emp,a1.un b2,fun _=>.inl rfl,rfl,by
  rw[hp,hd]
  exact⟨.inl ⟨0,rfl,rfl,rfl⟩,fun _ _=>rfl⟩,s1⟩)
 have l:(a1.un b2).le (a1.un (b1.un b2)):=by
  intro x k hk
  cases h:a1 x with
  |some k'=>rw[un_l h]at hk;cases hk;exact un_l h
  |none=>
   rw[un_n h]at hk
   rw[un_n h];exact un_r d2 hk
 have dj':Disj (a1.un b2) c:=fun x=>by
  rcases dj x with h|h
  ·exact .inl (le_none l h)
  ·exact .inr h
 refine⟨(a1.un b2).un c,?_,_,c,dj',rfl,s2,h2⟩
 intro x k hk
 cases h:(a1.un b2) x with
 |some k'=>rw[un_l h]at hk;cases hk;exact un_l (l x _ h)
 |none=>rw[un_n h]at hk;exact un_r dj hk⟩
theorem cl_take{cd:D}{ys:List CS}{k:Nat}{R:List Asr}(hk:k≤ys.length):Ent (clA cd ys::R) (clA cd (ys.take k)::R):=by
 refine⟨fun m hm=>?_⟩
 obtain⟨a,c,dj,rfl,h1,h2⟩:=hm
 obtain⟨a1,a2,d1,rfl,k1,k2⟩:=star2.1 h1
 have k2':star ((ys.take k).map (fun y=>slA 6 pv y.d y.c.pairs)++(ys.drop k).map (fun y=>slA 6 pv y.d y.c.pairs)) a2:=by
  rw[←List.map_append,List.take_append_drop];exact k2
 obtain⟨b1,b2,d2,rfl,k3,k4⟩:=star_append.1 k2'
 have s1:clA cd (ys.take k) (a1.un b1):=star2.2 ⟨a1,b1,(disj_un.1 d1).1,rfl,sl_take csv_len k1 hk,k3⟩
 have l:(a1.un b1).le (a1.un (b1.un b2)):=by rw[←un_assoc];exact le_l _ _
 have dj':Disj (a1.un b1) c:=fun x=>by
  rcases dj x with h|h
  ·exact .inl (le_none l h)
  ·exact .inr h
 refine⟨(a1.un b1).un c,?_,_,c,dj',rfl,s1,h2⟩
 intro x k hk
 cases h:(a1.un b1) x with
 |some k'=>rw[un_l h]at hk;cases hk;exact un_l (l x _ h)
 |none=>rw[un_n h]at hk;exact un_r dj hk
def CS.gone(f:Int):CS:=⟨Cell.gone f,none,0⟩
def CS.zero:CS:=⟨Cell.zero,none,0⟩
theorem move_a{a:Nat}{x:HX}(h:Sound x.H)(hph:x.H.phase=4):FnA Tryd.prog 68 [ptr a] (hp a x) (fun v As=>∃z:HX,As=hp a z∧z.H=x.H.moveU):=by
 obtain⟨q1,q2,q3⟩:=sound_gray h
 have hl:=x.len
 have hnc:x.hdr.nc=x.xs.length:=rfl
 have hnr:x.hdr.nr=x.regs.length:=rfl
 refine fnA_of (fun h=>fn68 (by simp) h) ?_
 unfold Heap.moveU
 rw[hl]
 repeat' (first
  |(refine k_L ?_;first|refine a_p rfl ?_|(refine k_l ?_;refine g_l rfl ?_))
  |refine a_n ?_
  |(refine k_V ?_;first|refine v_seq ?_|refine v_reg ?_)
  |refine s_n ?_)
 refine g_range x.xs.length (fun q:Int×Int=>[(0,.v (ptr a)),(2,.v (.int .i64 q.1)),(3,.v (.int .i64 q.2)),(16,.v (.slice x.cd.a x.xs.length x.cd.cap))]) (fun q=>hp a x) (fun i q=>q.1=frG x.H i∧q.2=luG x.H i) ((x.xs.length:Int),(-1:Int)) ⟨by show _=(x.H.cells.length:Int);rw[hl],rfl⟩ (fun i q hi hv=>?_) (fun q hv=>?_)
 ·obtain⟨f,u⟩:=q
  obtain⟨rfl,rfl⟩:=hv
  obtain⟨y,gy,gc⟩:=HX.at hi
  have gk:=HX.gc gy
  obtain⟨f1,f2,f3,f4⟩:=frG_ok x.H i
  have ef:frG x.H (i+1)=if y.c.state=0 then min (frG x.H i) i else frG x.H i:=by show(if _ then _ else _)=_;rw[gk]
  have eu:luG x.H (i+1)=if y.c.state=1 then(i:Int)else luG x.H i:=by show(if _ then _ else _)=_;rw[gk]
  repeat' (first
   |(refine k_L ?_;first|refine a_p rfl ?_|(refine k_i ?_;refine g_i rfl rfl ?_)|(refine k_ls ?_;refine g_ls rfl ?_)|(refine k_st ?_;refine g_sw rfl rfl rfl rfl (Nat.le_of_ble_eq_true rfl) ?_)|(refine k_al ?_;refine a_al ?_))
   |refine a_n ?_
   |(refine k_V ?_;first|refine v_seq ?_|refine v_reg ?_|refine v_skip ?_|(refine v_cd rfl (fun hb=>?_) (fun hb=>?_)<;>try(exfalso;omega)))
   |refine sk_zero ?_
   |refine sk_succ ?_
   |refine wk_nil ?_
   |refine wk_cons ?_)
  ·refine r_nx ((if(i:Int)<frG x.H i then(i:Int)else frG x.H i),luG x.H i) ⟨?_,by show luG x.H i=_;rw[eu,if_neg ‹_›]⟩
   have e2:frG x.H (i+1)=min (frG x.H i) i:=by rw[ef,if_pos (by assumption)]
   show(if(i:Int)<frG x.H i then(i:Int)else frG x.H i)=frG x.H (i+1)
   rw[e2,Int.min_def]
   by_cases c1:(i:Int)<frG x.H i
   ·rw[if_pos c1,if_neg (by omega)]
   ·rw[if_neg c1,if_pos (by omega)]
  ·exact r_nx (frG x.H i,(i:Int)) ⟨by rw[ef,if_neg ‹_›],by rw[eu,if_pos ‹_›]⟩
  ·exact r_nx (frG x.H i,luG x.H i) ⟨by rw[ef,if_neg ‹_›],by rw[eu,if_neg ‹_›]⟩
 obtain⟨f,u⟩:=q
 obtain⟨hv1,hv2⟩:=hv
 simp only at hv1 hv2
 rw[←hv1,←hv2]
 obtain⟨f1,f2,f3,f4⟩:=frG_ok x.H x.xs.length
 obtain⟨u1,u2,u3,u4⟩:=luG_ok x.H x.xs.length
 rw[←hv1]at f1 f2 f3 f4
 rw[←hv2]at u1 u2 u3 u4
 by_cases hfu:u≤f
 ·rw[if_pos hfu]
  repeat' (first
   |(refine k_L ?_;first|refine a_p rfl ?_|(refine g_c rfl (enter_a (x:=x)) (fun v As' hq=>?_);subst hq))
   |refine a_n ?_
   |(refine k_V ?_;first|refine v_seq ?_|refine v_reg ?_|refine v_ret ?_|(refine v_cd rfl (fun hb=>?_) (fun hb=>?_)<;>try(exfalso;omega)))
   |refine s_r ?_)
  exact fa_r (fun _ _=>rfl) (Pm.ent (fin (x.enter 5))) ⟨_,rfl,enter_H⟩
 ·rw[if_neg hfu]
  have sf:=(f3 (by omega)).2
  have su:=u3 (by omega)
  obtain⟨fn,rfl⟩:=Int.eq_ofNat_of_zero_le f1
  obtain⟨un,rfl⟩:=Int.eq_ofNat_of_zero_le (by omega:0≤u)
  obtain⟨yf,gf,_⟩:=HX.at (x:=x) (i:=fn) (by omega)
  obtain⟨yu,gu,_⟩:=HX.at (x:=x) (i:=un) (by omega)
  have cf:=HX.gc gf
  have cu:=HX.gc gu
  have gu2:(x.xs.set fn yu)[un]?=some yu:=by rw[List.getElem?_set,if_neg (by omega)];exact gu
  repeat' (first
   |(refine k_L ?_;first|refine a_p rfl ?_|(refine k_l ?_;refine g_l rfl ?_)|(refine k_i ?_;refine g_i rfl rfl ?_)|(refine k_ls ?_;refine g_ls rfl ?_))
   |refine a_n ?_
   |(refine k_V ?_;first|refine v_seq ?_|refine v_reg ?_|refine v_dreg ?_|refine v_skip ?_|(refine v_cd rfl (fun hb=>?_) (fun hb=>?_)<;>try(exfalso;omega))))
  refine LA.ent (Bs:=[slA 8 csv x.cd x.xs,prA x.xs,hdA a x.hdr,slA 3 wv x.rd x.regs,slA 1 iv x.gd x.gray]) ?_ ?_
  ·refine Ent.trans (Pm.ent (As1:=[clA x.cd x.xs,hdA a x.hdr,slA 3 wv x.rd x.regs,slA 1 iv x.gd x.gray]) pmt) ?_
   exact cl_open.trans (Pm.ent pmt)
  refine a_st rfl rfl rfl rfl (up_h (u_cell (y':=yu) gf)) ?_
  repeat' (first
   |(refine k_L ?_;first|refine a_p rfl ?_|(refine k_l ?_;refine g_l rfl ?_)|(refine k_i ?_;refine g_i rfl rfl ?_))
   |refine a_n ?_
   |(refine k_V ?_;first|refine v_seq ?_|refine v_reg ?_))
  refine a_st rfl rfl rfl rfl (up_h (u_cell (y':=CS.gone fn) gu2)) ?_
  refine LA.ent (Bs:=hp a ({x with xs:=(x.xs.set fn yu).set un (CS.gone fn)}:HX)) ?_ ?_
  ·refine Ent.trans (Pm.ent (As1:=[prA x.xs,slA 8 csv x.cd ((x.xs.set fn yu).set un (CS.gone fn)),hdA a x.hdr,slA 3 wv x.rd x.regs,slA 1 iv x.gd x.gray]) pmt) ?_
   refine(pr_move gf gu (by omega) (g:=CS.gone fn) rfl rfl).trans ?_
   refine Ent.trans (Pm.ent (As1:=[slA 8 csv x.cd ((x.xs.set fn yu).set un (CS.gone fn)),prA ((x.xs.set fn yu).set un (CS.gone fn)),hdA a x.hdr,slA 3 wv x.rd x.regs,slA 1 iv x.gd x.gray]) pmt) ?_
   refine cl_close.trans ?_
   exact Pm.ent (fin _ (h2:=by simp[HX.hdr]) (e1:=by simp[HX.hdr]))
  repeat' (first
   |(refine k_L ?_;first|refine a_p rfl ?_|(refine k_l ?_;refine g_l rfl ?_))
   |refine a_n ?_
   |(refine k_V ?_;first|refine v_seq ?_|refine v_reg ?_)
   |refine s_n ?_)
  refine g_range x.regs.length (fun q:List Word=>[(0,.v (ptr a)),(2,.v (.int .i64 fn)),(3,.v (.int .i64 un)),(63,.v (.slice x.rd.a x.regs.length x.rd.cap))]) (fun q=>hp a ({x with xs:=(x.xs.set fn yu).set un (CS.gone fn),regs:=q}:HX)) (fun i q=>q=(x.regs.take i).map (fun w=>w.redir un fn)++x.regs.drop i) x.regs (by simp) (fun i q hi hv=>?_) (fun q hv=>?_)
  ·subst hv
   obtain⟨w,gw⟩:∃w,x.regs[i]?=some w:=⟨_,List.getElem?_eq_getElem hi⟩
   have hlm:((x.regs.take i).map (fun w=>w.redir un fn)).length=i:=by rw[List.length_map,List.length_take];omega
   have gw2:((x.regs.take i).map (fun w=>w.redir un fn)++x.regs.drop i)[i]?=some w:=by
    rw[List.getElem?_append_right (by omega),hlm,Nat.sub_self,List.getElem?_drop];exact gw
   have nx:∀w',((x.regs.take i).map (fun w=>w.redir un fn)++x.regs.drop i).set i w'=(x.regs.take i).map (fun w=>w.redir un fn)++w'::x.regs.drop (i+1):=fun w'=>by
    rw[List.set_append_right _ _ (by omega),hlm,Nat.sub_self,List.drop_eq_getElem_cons hi];rfl
   have nw:x.regs[i]=w:=(List.getElem?_eq_some_iff.1 gw).2
   have nx2:∀w',w'=w.redir un fn→(x.regs.take i).map (fun w=>w.redir un fn)++w'::x.regs.drop (i+1)=(x.regs.take (i+1)).map (fun w=>w.redir un fn)++x.regs.drop (i+1):=fun w' e=>by
    rw[List.take_add_one,gw,e];simp
   have n0:(x.regs.take i).map (fun w=>w.redir un fn)++x.regs.drop i=(x.regs.take i).map (fun w=>w.redir un fn)++w::x.regs.drop (i+1):=by rw[List.drop_eq_getElem_cons hi,nw]
   generalize hL:(x.regs.take i).map (fun w=>w.redir un fn)++x.regs.drop i=L at*
   have hLl:L.length=x.regs.length:=by rw[←hL,List.length_append,hlm,List.length_drop];omega
   repeat' (first
    |(refine k_L ?_;first|refine a_p rfl ?_|(refine k_g ?_;first|refine a_gy rfl rfl ?_|refine a_gn rfl rfl ?_|(refine a_gd rfl (fun hb=>?_) (fun hb=>?_)<;>try(exfalso;omega)))|(refine k_l ?_;refine g_l rfl ?_)|(refine k_i ?_;refine g_i rfl rfl ?_)|(refine k_ls ?_;refine g_ls rfl ?_)|(refine k_st ?_;first|refine g_st rfl rfl rfl rfl ?_|refine g_sw rfl rfl rfl rfl (Nat.le_of_ble_eq_true rfl) ?_)|(refine k_al ?_;refine a_al ?_))
    |refine a_n ?_
    |(refine k_V ?_;first|refine v_seq ?_|refine v_reg ?_|refine v_skip ?_|refine v_cf rfl ?_|(refine v_cd rfl (fun hb=>?_) (fun hb=>?_)<;>try(exfalso;omega)))
    |refine sk_zero ?_
    |refine sk_succ ?_
    |refine wk_nil ?_
    |refine wk_cons ?_)
   ·refine r_nx (L.set i {w with at_:=(fn:Int)}) ?_ (he:=Pm.ent (fin _ (h1:=by simp[HX.hdr])))
    rw[nx]
    exact nx2 _ (by unfold Word.redir;rw[if_pos ⟨by assumption,by assumption⟩])
   ·refine r_nx L ?_
    rw[n0]
    exact nx2 _ (by unfold Word.redir;rw[if_neg (fun h=>absurd h.2 (by assumption))])
   ·refine r_nx L ?_
    rw[n0]
    exact nx2 _ (by unfold Word.redir;rw[if_neg (fun h=>absurd h.1 (by assumption))])
  ·subst hv
   repeat' (first
    |(refine k_L ?_;first|(refine k_ad ?_;refine g_ad rfl rfl ?_)|(refine k_su ?_;refine g_su rfl rfl ?_)|(refine k_ml ?_;refine g_ml rfl rfl ?_)|refine a_p rfl ?_|(refine k_g ?_;first|refine a_gy rfl rfl ?_|refine a_gn rfl rfl ?_|refine a_gu rfl ?_|(refine a_gd rfl (fun hb=>?_) (fun hb=>?_)<;>try(exfalso;omega))|(refine a_ge rfl (fun hb=>?_) (fun hb=>?_)<;>try(exfalso;omega))|(refine a_gne rfl (fun hb=>?_) (fun hb=>?_)<;>try(exfalso;omega))|(refine a_gnd rfl (fun hb=>?_) (fun hb=>?_)<;>try(exfalso;omega)))|(refine k_l ?_;refine g_l rfl ?_)|(refine k_i ?_;refine g_i rfl rfl ?_)|(refine k_ls ?_;refine g_ls rfl ?_)|(refine k_st ?_;first|refine g_st rfl rfl rfl rfl ?_|refine g_sw rfl rfl rfl rfl (Nat.le_of_ble_eq_true rfl) ?_)|(refine k_al ?_;refine a_al ?_)|(refine k_bx ?_;refine a_bx rfl rfl ?_)|(refine k_bl ?_;refine a_bl rfl ?_)|(refine k_p ?_;first|(refine a_pd rfl (fun hb=>?_) (fun hb=>?_)<;>try(exfalso;omega))|(refine a_pe rfl (fun hb=>?_) (fun hb=>?_)<;>try(exfalso;omega))|(refine a_pne rfl (fun hb=>?_) (fun hb=>?_)<;>try(exfalso;omega))|(refine a_pnd rfl (fun hb=>?_) (fun hb=>?_)<;>try(exfalso;omega))))
    |refine a_n ?_
    |(refine k_V ?_;first|refine v_rv ?_|refine v_seq ?_|refine v_reg ?_|refine v_dreg ?_|refine v_zreg ?_|refine v_bs ?_|refine v_br ?_|refine v_bd ?_|refine v_bc ?_|refine v_bk ?_|refine v_bb ?_|refine v_ret ?_|refine v_exit ?_|refine v_skip ?_|refine v_ct rfl ?_|refine v_cf rfl ?_|(refine v_cd rfl (fun hb=>?_) (fun hb=>?_)<;>try(exfalso;omega))|(refine v_ce rfl (fun hb=>?_) (fun hb=>?_)<;>try(exfalso;omega))|(refine v_cn rfl (fun hb=>?_) (fun hb=>?_)<;>try(exfalso;omega))|(refine v_cnd rfl (fun hb=>?_) (fun hb=>?_)<;>try(exfalso;omega)))
    |refine s_n ?_
    |refine s_r ?_
    |refine s_e ?_
    |refine b_n ?_
    |refine b_r ?_
    |refine b_e ?_
    |refine b_o rfl ?_
    |refine r_rt ?_
    |refine r_bk rfl ?_
    |refine r_ex rfl rfl ?_
    |refine sk_zero ?_
    |refine sk_succ ?_
    |refine wk_nil ?_
    |refine wk_cons ?_)
   refine fa_n (fun _ _=>rfl) (Pm.ent pmt) ⟨_,rfl,?_⟩
   unfold HX.H Heap.moved
   simp only[List.map_set,List.take_of_length_le (Nat.le_refl _),List.drop_length,List.append_nil,Int.toNat_natCast]
   have cu':(Heap.mk x.room x.used x.born x.regs (x.xs.map (·.c)) x.phase x.hand x.sub x.gray x.per x.start x.rounds x.forced).getC un=yu.c:=cu
   rw[cu']
   rfl
theorem unit1_a{a:Nat}{x:HX}(h:Sound x.H)(hph:x.H.phase=1):FnA Tryd.prog 65 [ptr a] (hp a x) (fun v As=>∃z:HX,As=hp a z∧z.H=x.H.rootsU):=by
 obtain⟨q1,q2,q3⟩:=sound_gray h
 have hl:=x.len
 have hnc:x.hdr.nc=x.xs.length:=rfl
 have hph':x.hdr.phase=1:=hph
 have hhd:x.hdr.hand=x.H.hand:=rfl
 have h0:=h.r1.hand
 refine fnA_of (fun h=>fn65 (by simp) h) ?_
 unfold Heap.rootsU
 by_cases hh:x.H.hand=x.H.cells.length
 ·rw[if_pos hh]
  repeat' (first
   |(refine k_L ?_;first|refine a_p rfl ?_|(refine k_l ?_;refine g_l rfl ?_)|(refine g_c rfl (enter_a (x:=x)) (fun v As' hq=>?_);subst hq))
   |refine a_n ?_
   |(refine k_V ?_;first|refine v_seq ?_|refine v_reg ?_|refine v_bs ?_|refine v_ret ?_|(refine v_cd rfl (fun hb=>?_) (fun hb=>?_)<;>try(exfalso;omega)))
   |refine s_r ?_
   |refine b_r ?_)
  exact fa_r (fun _ _=>rfl) (Pm.ent (fin (x.enter 2))) ⟨_,rfl,enter_H⟩
 ·rw[if_neg hh]
  obtain⟨k,hk⟩:=Int.eq_ofNat_of_zero_le h0.1
  have hk':x.hdr.hand=k:=hk
  obtain⟨y,gy,gc⟩:=HX.at (x:=x) (i:=k) (by omega)
  have gk:=HX.gc gy
  have gy':x.xs[x.hdr.hand.toNat]?=some y:=by rw[hk'];exact gy
  rw[hk,gk]
  by_cases hr:Root y.c
  ·rw[if_pos hr]
   repeat' (first
    |(refine k_L ?_;first|refine a_p rfl ?_|(refine k_l ?_;refine g_l rfl ?_)|(refine k_i ?_;refine g_i rfl rfl ?_)|(refine k_ls ?_;refine g_ls rfl ?_)|(refine k_q ?_;refine a_q rfl (fun m hm=>qt_e (root_q (y:=y)) (congrArg Value.bool (decide_eq_true hr))) ?_))
    |refine a_n ?_
    |(refine k_V ?_;first|refine v_seq ?_|refine v_reg ?_|refine v_dreg ?_|refine v_bs ?_|refine v_skip ?_|refine v_ct rfl ?_|(refine v_cd rfl (fun hb=>?_) (fun hb=>?_)<;>try(exfalso;omega))))
   rw[hk']
   refine g_c rfl (shadeH_a (x:=x) (i:=k) (by omega) q1) (fun v As' hq=>?_)
   obtain⟨z,rfl,hz,hzr⟩:=hq
   obtain⟨s,_⟩:=shadeH_ok (H:=x.H) (i:=k) (by omega) (by rw[gk];exact hr.1)
   rw[←hz]at s
   have zh:z.hand=k:=by have:=s.hand;rw[hk]at this;exact this
   have zh':z.hdr.hand=k:=zh
   repeat' (first
    |(refine k_L ?_;first|(refine k_ad ?_;refine g_ad rfl rfl ?_)|refine a_p rfl ?_|(refine k_l ?_;refine g_l rfl ?_)|(refine k_st ?_;refine g_st rfl rfl rfl rfl ?_))
    |refine a_n ?_
    |(refine k_V ?_;refine v_reg ?_)
    |refine b_n ?_)
   refine fa_n (fun _ _=>rfl) (Pm.ent (fin {z with hand:=z.hand+1})) ⟨_,rfl,?_⟩
   show({z.H with hand:=z.hand+1}:Heap)=_
   rw[zh,hz];rfl
  ·rw[if_neg hr]
   repeat' (first
    |(refine k_L ?_;first|(refine k_ad ?_;refine g_ad rfl rfl ?_)|refine a_p rfl ?_|(refine k_l ?_;refine g_l rfl ?_)|(refine k_i ?_;refine g_i rfl rfl ?_)|(refine k_ls ?_;refine g_ls rfl ?_)|(refine k_st ?_;refine g_st rfl rfl rfl rfl ?_)|(refine k_q ?_;refine a_q rfl (fun m hm=>qt_e (root_q (y:=y)) (congrArg Value.bool (decide_eq_false hr))) ?_))
    |refine a_n ?_
    |(refine k_V ?_;first|refine v_seq ?_|refine v_reg ?_|refine v_dreg ?_|refine v_bs ?_|refine v_skip ?_|refine v_cf rfl ?_|(refine v_cd rfl (fun hb=>?_) (fun hb=>?_)<;>try(exfalso;omega)))
    |refine b_n ?_)
   refine fa_n (fun _ _=>rfl) (Pm.ent (fin {x with hand:=x.hand+1})) ⟨_,rfl,?_⟩
   show({x.H with hand:=x.hand+1}:Heap)=_
   rw[←hk];rfl
theorem unit2_a{a:Nat}{x:HX}(h:Sound x.H)(hph:x.H.phase=2):FnA Tryd.prog 65 [ptr a] (hp a x) (fun v As=>∃z:HX,As=hp a z∧z.H=x.H.markU):=by
 have hph':x.hdr.phase=2:=hph
 refine fnA_of (fun h=>fn65 (by simp) h) ?_
 repeat' (first
  |(refine k_L ?_;first|refine a_p rfl ?_|(refine k_l ?_;refine g_l rfl ?_)|(refine g_c rfl (mark_a h hph) (fun v As' hq=>?_);obtain⟨z,rfl,hz⟩:=hq))
  |refine a_n ?_
  |(refine k_V ?_;first|refine v_seq ?_|refine v_reg ?_|refine v_bs ?_|(refine v_cd rfl (fun hb=>?_) (fun hb=>?_)<;>try(exfalso;omega)))
  |refine b_n ?_)
 exact fa_n (fun _ _=>rfl) (Pm.ent (fin z)) ⟨_,rfl,hz⟩
theorem unit4_a{a:Nat}{x:HX}(h:Sound x.H)(hph:x.H.phase=4):FnA Tryd.prog 65 [ptr a] (hp a x) (fun v As=>∃z:HX,As=hp a z∧z.H=x.H.moveU):=by
 have hph':x.hdr.phase=4:=hph
 refine fnA_of (fun h=>fn65 (by simp) h) ?_
 repeat' (first
  |(refine k_L ?_;first|refine a_p rfl ?_|(refine k_l ?_;refine g_l rfl ?_)|(refine g_c rfl (move_a h hph) (fun v As' hq=>?_);obtain⟨z,rfl,hz⟩:=hq))
  |refine a_n ?_
  |(refine k_V ?_;first|refine v_seq ?_|refine v_reg ?_|refine v_bs ?_|(refine v_cd rfl (fun hb=>?_) (fun hb=>?_)<;>try(exfalso;omega)))
  |refine b_n ?_)
 exact fa_n (fun _ _=>rfl) (Pm.ent (fin z)) ⟨_,rfl,hz⟩
theorem unit3_a{a:Nat}{x:HX}(h:Sound x.H)(hph:x.H.phase=3):FnA Tryd.prog 65 [ptr a] (hp a x) (fun v As=>∃z:HX,As=hp a z∧z.H=x.H.sweepU):=by
 obtain⟨q1,q2,q3⟩:=sound_gray h
 have hl:=x.len
 have hnc:x.hdr.nc=x.xs.length:=rfl
 have hph':x.hdr.phase=3:=hph
 have hhd:x.hdr.hand=x.H.hand:=rfl
 have h0:=h.r1.hand
 refine fnA_of (fun h=>fn65 (by simp) h) ?_
 unfold Heap.sweepU
 by_cases hh:x.H.hand=x.H.cells.length
 ·rw[if_pos hh]
  repeat' (first
   |(refine k_L ?_;first|refine a_p rfl ?_|(refine k_l ?_;refine g_l rfl ?_)|(refine g_c rfl (enter_a (x:=x)) (fun v As' hq=>?_);subst hq))
   |refine a_n ?_
   |(refine k_V ?_;first|refine v_seq ?_|refine v_reg ?_|refine v_bs ?_|refine v_ret ?_|(refine v_cd rfl (fun hb=>?_) (fun hb=>?_)<;>try(exfalso;omega)))
   |refine s_r ?_
   |refine b_r ?_)
  exact fa_r (fun _ _=>rfl) (Pm.ent (fin (x.enter 4))) ⟨_,rfl,enter_H⟩
 ·rw[if_neg hh]
  obtain⟨k,hk⟩:=Int.eq_ofNat_of_zero_le h0.1
  have hk':x.hdr.hand=k:=hk
  obtain⟨y,gy,gc⟩:=HX.at (x:=x) (i:=k) (by omega)
  have gk:=HX.gc gy
  have gy':x.xs[x.hdr.hand.toNat]?=some y:=by rw[hk'];exact gy
  have hpl:=h.r2.pl (List.mem_of_getElem? gc)
  have hus:=h.r3
  have hnn:=pairsN_nonneg x.H.cells
  have hun:=pairsN_units h.r2
  have hrm:=h.r1.room
  unfold R3 at hus
  have hud:x.hdr.used=x.H.used:=rfl
  have hyu:y.c.units≤201∧0≤y.c.units:=by unfold Cell.units;split<;>omega
  rw[hk,gk]
  repeat' (first
   |(refine k_L ?_;first|(refine k_ad ?_;refine g_ad rfl rfl ?_)|(refine k_su ?_;refine g_su rfl rfl ?_)|refine a_p rfl ?_|(refine k_g ?_;first|refine a_gy rfl rfl ?_|refine a_gn rfl rfl ?_|(refine a_gd rfl (fun hb=>?_) (fun hb=>?_)<;>try(exfalso;omega)))|(refine k_l ?_;refine g_l rfl ?_)|(refine k_i ?_;refine g_i rfl rfl ?_)|(refine k_ls ?_;refine g_ls rfl ?_)|(refine k_st ?_;refine g_st rfl rfl rfl rfl ?_)|(refine k_q ?_;refine a_q rfl (fun m hm=>units_q (y:=y) (by omega)) ?_)|(refine a_c0 CS.zero gy' rfl rfl rfl rfl rfl rfl rfl ?_))
   |refine a_n ?_
   |(refine k_V ?_;first|refine v_seq ?_|refine v_reg ?_|refine v_dreg ?_|refine v_bs ?_|refine v_skip ?_|refine v_cf rfl ?_|(refine v_cd rfl (fun hb=>?_) (fun hb=>?_)<;>try(exfalso;omega)))
   |refine b_n ?_)
  ·refine fa_n (fun _ _=>rfl) (Pm.ent (fin {x with used:=x.used-y.c.units,xs:=x.xs.set x.hdr.hand.toNat CS.zero,hand:=x.hand+1})) ⟨_,rfl,?_⟩
   have eu:y.c.units=1+y.c.pairs.length:=by unfold Cell.units;rw[if_pos (by assumption)]
   rw[if_pos ⟨by assumption,by assumption⟩]
   show({x.H with used:=x.used-y.c.units,cells:=(x.xs.set x.hdr.hand.toNat CS.zero).map (·.c),hand:=x.hand+1}:Heap)=_
   rw[eu,List.map_set,hk',show x.hand=k from hk]
   rfl
  all_goals refine fa_n (fun _ _=>rfl) (Pm.ent (fin {x with xs:=x.xs.set x.hdr.hand.toNat (y.s_color 0),hand:=x.hand+1})) ⟨_,rfl,?_⟩
  all_goals rw[if_neg (fun h=>by first|exact absurd h.1 (by assumption)|exact absurd h.2 (by assumption))]
  all_goals show({x.H with cells:=(x.xs.set x.hdr.hand.toNat (y.s_color 0)).map (·.c),hand:=x.hand+1}:Heap)=_
  all_goals rw[List.map_set,hk',show x.hand=k from hk]
  all_goals rfl
theorem unit5_a{a:Nat}{x:HX}(h:Sound x.H)(hph:x.H.phase=5):FnA Tryd.prog 65 [ptr a] (hp a x) (fun v As=>∃z:HX,As=hp a z∧z.H=x.H.mendU):=by
 obtain⟨q1,q2,q3⟩:=sound_gray h
 have hl:=x.len
 have hnc:x.hdr.nc=x.xs.length:=rfl
 have hph':x.hdr.phase=5:=hph
 have hhd:x.hdr.hand=x.H.hand:=rfl
 have hsb:x.hdr.sub=x.H.sub:=rfl
 have h0:=h.r1.hand
 have hs0:=h.r1.sub
 refine fnA_of (fun h=>fn65 (by simp) h) ?_
 unfold Heap.mendU
 by_cases hh:x.H.hand=x.H.cells.length
 ·rw[if_pos hh]
  repeat' (first
   |(refine k_L ?_;first|refine a_p rfl ?_|(refine k_l ?_;refine g_l rfl ?_)|(refine g_c rfl (enter_a (x:=x)) (fun v As' hq=>?_);subst hq))
   |refine a_n ?_
   |(refine k_V ?_;first|refine v_seq ?_|refine v_reg ?_|refine v_bs ?_|refine v_ret ?_|(refine v_cd rfl (fun hb=>?_) (fun hb=>?_)<;>try(exfalso;omega)))
   |refine s_r ?_
   |refine b_r ?_)
  exact fa_r (fun _ _=>rfl) (Pm.ent (fin (x.enter 6))) ⟨_,rfl,enter_H⟩
 ·rw[if_neg hh]
  obtain⟨k,hk⟩:=Int.eq_ofNat_of_zero_le h0.1
  have hk':x.hdr.hand=k:=hk
  obtain⟨y,gy,gc⟩:=HX.at (x:=x) (i:=k) (by omega)
  have gk:=HX.gc gy
  have gy':x.xs[x.hdr.hand.toNat]?=some y:=by rw[hk'];exact gy
  have hpl:=h.r2.pl (List.mem_of_getElem? gc)
  rw[hk,gk]
  by_cases hlt:x.H.sub<y.c.pairs.length
  ·obtain⟨s,hs⟩:=Int.eq_ofNat_of_zero_le hs0.1
   have hs':x.hdr.sub=s:=hs
   obtain⟨p,gp⟩:∃p,y.c.pairs[s]?=some p:=⟨_,List.getElem?_eq_getElem (by omega)⟩
   have gp':y.c.pairs[x.hdr.sub.toNat]?=some p:=by rw[hs'];exact gp
   rw[hs,show((s:Int)).toNat=s by omega,gp]
   simp only
   obtain⟨f1,f2,_⟩:=h.r4.pairs k y.c gc s p gp
   have gy1:(x.xs.set x.hdr.hand.toNat (y.s_pair x.hdr.sub.toNat (p.s_key (x.hs.H.lead p.key))))[x.hdr.hand.toNat]?=some (y.s_pair x.hdr.sub.toNat (p.s_key (x.hs.H.lead p.key))):=by
    rw[List.getElem?_set,if_pos rfl,if_pos (List.getElem?_eq_some_iff.1 gy').1]
   have gp1:(y.s_pair x.hdr.sub.toNat (p.s_key (x.hs.H.lead p.key))).c.pairs[x.hdr.sub.toNat]?=some (p.s_key (x.hs.H.lead p.key)):=by
    show(y.c.pairs.set x.hdr.sub.toNat _)[x.hdr.sub.toNat]?=_
    rw[List.getElem?_set,if_pos rfl,if_pos (List.getElem?_eq_some_iff.1 gp').1]
   repeat' (first
    |(refine k_L ?_;first|refine a_p rfl ?_|(refine k_l ?_;refine g_l rfl ?_)|(refine k_i ?_;refine g_i rfl rfl ?_)|(refine k_ls ?_;refine g_ls rfl ?_)|(refine k_st ?_;refine g_st rfl rfl rfl rfl ?_)|(refine k_q ?_;first|refine a_q rfl (fun m hm=>lead_q (x:=x.hs) (w:=p.key) (ph_g (x:=x) hm) (fun hk=>f1.at hk)) ?_|refine a_q rfl (fun m hm=>lead_q (x:=x.hs) (w:=p.val) (ph_g (x:=x) hm) (fun hk=>f2.at hk)) ?_))
    |refine a_n ?_
    |(refine k_V ?_;first|refine v_seq ?_|refine v_reg ?_|refine v_dreg ?_|refine v_bs ?_|refine v_skip ?_|(refine v_cd rfl (fun hb=>?_) (fun hb=>?_)<;>try(exfalso;omega))))
   refine a_st rfl rfl rfl rfl (up_t (up_t (up_h (u_val (y:=y.s_pair x.hdr.sub.toNat (p.s_key (x.hs.H.lead p.key))) (i:=x.hdr.hand.toNat) (k:=x.hdr.sub.toNat) (p:=p.s_key (x.hs.H.lead p.key)) (w:=x.hs.H.lead p.val) gy1 gp1)))) ?_
   repeat' (first
    |(refine k_L ?_;first|(refine k_ad ?_;refine g_ad rfl rfl ?_)|refine a_p rfl ?_|(refine k_l ?_;refine g_l rfl ?_)|(refine k_st ?_;refine g_st rfl rfl rfl rfl ?_))
    |refine a_n ?_
    |(refine k_V ?_;first|refine v_seq ?_|refine v_reg ?_|refine v_ret ?_)
    |refine s_r ?_
    |refine b_r ?_)
   refine fa_r (fun _ _=>rfl) (Pm.ent (fin ({x with xs:=(x.xs.set x.hdr.hand.toNat (y.s_pair x.hdr.sub.toNat (p.s_key (x.hs.H.lead p.key)))).set x.hdr.hand.toNat ((y.s_pair x.hdr.sub.toNat (p.s_key (x.hs.H.lead p.key))).s_pair x.hdr.sub.toNat ((p.s_key (x.hs.H.lead p.key)).s_val (x.hs.H.lead p.val))),sub:=x.sub+1}:HX))) ⟨_,rfl,?_⟩
   show({x.H with cells:=(((x.xs.set x.hdr.hand.toNat (y.s_pair x.hdr.sub.toNat (p.s_key (x.hs.H.lead p.key)))).set x.hdr.hand.toNat ((y.s_pair x.hdr.sub.toNat (p.s_key (x.hs.H.lead p.key))).s_pair x.hdr.sub.toNat ((p.s_key (x.hs.H.lead p.key)).s_val (x.hs.H.lead p.val))))).map (·.c),sub:=x.sub+1}:Heap)=_
   rw[List.set_set,List.map_set,hk',hs',show x.sub=s from hs]
   unfold CS.s_pair Pair.s_key Pair.s_val
   simp only[Int.toNat_natCast,List.set_set]
   rw[hk]
   rfl
  ·have gp:y.c.pairs[x.H.sub.toNat]?=none:=List.getElem?_eq_none (by omega)
   rw[gp]
   simp only
   repeat' (first
    |(refine k_L ?_;first|(refine k_ad ?_;refine g_ad rfl rfl ?_)|refine a_p rfl ?_|(refine k_l ?_;refine g_l rfl ?_)|(refine k_i ?_;refine g_i rfl rfl ?_)|(refine k_st ?_;refine g_st rfl rfl rfl rfl ?_))
    |refine a_n ?_
    |(refine k_V ?_;first|refine v_seq ?_|refine v_reg ?_|refine v_dreg ?_|refine v_bs ?_|refine v_skip ?_|(refine v_cd rfl (fun hb=>?_) (fun hb=>?_)<;>try(exfalso;omega)))
    |refine b_n ?_)
   refine fa_n (fun _ _=>rfl) (Pm.ent (fin ({x with hand:=x.hand+1,sub:=0}:HX))) ⟨_,rfl,?_⟩
   show({x.H with hand:=x.hand+1,sub:=0}:Heap)=_
   rw[show x.hand=k from hk]
theorem unit6_a{a:Nat}{x:HX}(h:Sound x.H)(hph:x.H.phase=6):FnA Tryd.prog 65 [ptr a] (hp a x) (fun v As=>∃z:HX,As=hp a z∧z.H=x.H.closeU):=by
 obtain⟨q1,q2,q3⟩:=sound_gray h
 have hl:=x.len
 have hnc:x.hdr.nc=x.xs.length:=rfl
 have hph':x.hdr.phase=6:=hph
 have hhd:x.hdr.hand=x.H.hand:=rfl
 have h0:=h.r1.hand
 have hrd:=h.r1.rounds
 have hrd':x.hdr.rounds=x.H.rounds:=rfl
 have hre:(x.enter 0).hdr.rounds=x.H.rounds:=rfl
 refine fnA_of (fun h=>fn65 (by simp) h) ?_
 refine v_kn (p:=x.xs.length≤x.cd.cap) (kn_t (kn_t (kn_h kc_cl))) (fun hcap=>?_)
 have hcap':x.hdr.cd.cap=x.cd.cap:=rfl
 unfold Heap.closeU
 by_cases hh:x.H.hand=0
 ·rw[if_pos hh]
  repeat' (first
   |(refine k_L ?_;first|(refine k_ad ?_;refine g_ad rfl rfl ?_)|refine a_p rfl ?_|(refine k_l ?_;refine g_l rfl ?_)|(refine k_st ?_;refine g_st rfl rfl rfl rfl ?_)|(refine g_c rfl (enter_a (x:=x)) (fun v As' hq=>?_);subst hq))
   |refine a_n ?_
   |(refine k_V ?_;first|refine v_seq ?_|refine v_reg ?_|refine v_bs ?_|refine v_ret ?_|(refine v_cd rfl (fun hb=>?_) (fun hb=>?_)<;>try(exfalso;omega)))
   |refine s_r ?_
   |refine b_r ?_)
  refine fa_r (fun _ _=>rfl) (Pm.ent (fin {x.enter 0 with rounds:=if 1000000000<x.rounds+1 then 1000000000 else x.rounds+1})) ⟨_,rfl,?_⟩
  show({(x.enter 0).H with rounds:=if 1000000000<x.rounds+1 then 1000000000 else x.rounds+1}:Heap)=_
  rw[enter_H]
  have:(if 1000000000<x.rounds+1 then 1000000000 else x.rounds+1)=if x.H.rounds<1000000000 then x.H.rounds+1 else x.H.rounds:=by
   rw[show x.rounds=x.H.rounds from rfl]
   by_cases c:x.H.rounds<1000000000
   ·rw[if_pos c,if_neg (by omega)]
   ·rw[if_neg c,if_pos (by omega)];omega
  rw[this]
 ·rw[if_neg hh]
  obtain⟨k,hk⟩:=Int.eq_ofNat_of_zero_le (show 0≤x.H.hand-1 by omega)
  have hk':x.hdr.hand-1=k:=hk
  obtain⟨y,gy,gc⟩:=HX.at (x:=x) (i:=k) (by omega)
  have gk:=HX.gc gy
  have gy':x.xs[(x.hdr.hand-1).toNat]?=some y:=by rw[hk'];exact gy
  have gz:(x.xs.set (x.hdr.hand-1).toNat CS.zero)[(x.hdr.hand-1).toNat]?=some CS.zero:=by
   rw[List.getElem?_set,if_pos rfl,if_pos (List.getElem?_eq_some_iff.1 gy').1]
  have hsh:(x.hdr.s_hand (x.hdr.hand-1)).hand=x.hdr.hand-1:=rfl
  have ghand:x.H.getC (x.H.hand-1)=y.c:=by rw[hk];exact gk
  have eA:y.c.state=2→x.H.closeA=(x.xs.set (x.hdr.hand-1).toNat CS.zero).map (·.c):=fun e=>by
   unfold Heap.closeA
   rw[ghand,if_pos e,List.map_set];rfl
  have eB:y.c.state≠2→x.H.closeA=x.H.cells:=fun e=>by
   unfold Heap.closeA
   rw[ghand,if_neg e]
  have sA:y.c.state=2→(getL x.H.closeA (x.H.hand-1)).state=0:=fun e=>by
   rw[eA e,List.map_set,getL_set (by rw[List.length_map];omega),if_pos (by rw[hhd])];rfl
  have sB:y.c.state≠2→(getL x.H.closeA (x.H.hand-1)).state=y.c.state:=fun e=>by
   rw[eB e,←getC_L,ghand]
  repeat' (first
   |(refine k_L ?_;first|(refine k_su ?_;refine g_su rfl rfl ?_)|refine a_p rfl ?_|(refine k_g ?_;first|refine a_gy rfl rfl ?_|refine a_gn rfl rfl ?_|(refine a_gd rfl (fun hb=>?_) (fun hb=>?_)<;>try(exfalso;omega)))|(refine k_l ?_;refine g_l rfl ?_)|(refine k_i ?_;refine g_i rfl rfl ?_)|(refine k_st ?_;refine g_st rfl rfl rfl rfl ?_)|(refine a_c0 CS.zero gy' rfl rfl rfl rfl rfl rfl rfl ?_)|(refine g_tk rfl rfl ?_))
   |refine a_n ?_
   |(refine k_V ?_;first|refine v_seq ?_|refine v_reg ?_|refine v_dreg ?_|refine v_bs ?_|refine v_skip ?_|refine v_ct rfl ?_|refine v_cf rfl ?_|(refine v_cd rfl (fun hb=>?_) (fun hb=>?_)<;>try(exfalso;omega)))
   |refine b_n ?_)
  ·have hs2:y.c.state=2:=by assumption
   have hn:x.H.hand=x.H.cells.length:=by omega
   rw[if_pos ⟨hn,sA hs2⟩,eA hs2]
   refine fa_n (As':=hp a ({x with hand:=x.hand-1,xs:=(x.xs.set (x.hdr.hand-1).toNat CS.zero).take ((x.hdr.nc:Int)-1).toNat}:HX)) (fun _ _=>rfl) ?_ ⟨_,rfl,?_⟩
   ·refine(cl_take (k:=((x.hdr.nc:Int)-1).toNat) (by rw[List.length_set];omega)).trans ?_
    exact Pm.ent (fin _ (h2:=by rw[List.length_take,List.length_set];show((x.hdr.nc:Int)-1).toNat=_;omega))
   ·show({x.H with hand:=x.hand-1,cells:=(((x.xs.set (x.hdr.hand-1).toNat CS.zero).take ((x.hdr.nc:Int)-1).toNat).map (·.c))}:Heap)=_
    rw[List.map_take,show((x.hdr.nc:Int)-1).toNat=(x.H.hand-1).toNat by omega]
    rfl
  ·have hs2:y.c.state=2:=by assumption
   rw[if_neg (fun h=>by have:=h.1;omega),eA hs2]
   exact fa_n (fun _ _=>rfl) (Pm.ent (fin {x with hand:=x.hand-1,xs:=x.xs.set (x.hdr.hand-1).toNat CS.zero})) ⟨_,rfl,rfl⟩
  ·have hs2:y.c.state≠2:=by assumption
   have hs0:y.c.state=0:=by assumption
   have hn:x.H.hand=x.H.cells.length:=by omega
   rw[if_pos ⟨hn,by rw[sB hs2];exact hs0⟩,eB hs2]
   refine fa_n (As':=hp a ({x with hand:=x.hand-1,xs:=x.xs.take ((x.hdr.nc:Int)-1).toNat}:HX)) (fun _ _=>rfl) ?_ ⟨_,rfl,?_⟩
   ·refine Ent.trans (Pm.ent (As1:=[clA x.cd x.xs,hdA a ((x.hdr.s_hand (x.hdr.hand-1)).s_cd x.cd ((x.hdr.nc:Int)-1).toNat),slA 3 wv x.rd x.regs,slA 1 iv x.gd x.gray]) pmt) ?_
    refine(cl_take (k:=((x.hdr.nc:Int)-1).toNat) (by omega)).trans ?_
    exact Pm.ent (fin _ (h2:=by rw[List.length_take];show((x.hdr.nc:Int)-1).toNat=_;omega))
   ·show({x.H with hand:=x.hand-1,cells:=((x.xs.take ((x.hdr.nc:Int)-1).toNat).map (·.c))}:Heap)=_
    rw[List.map_take,show((x.hdr.nc:Int)-1).toNat=(x.H.hand-1).toNat by omega]
    rfl
  ·have hs2:y.c.state≠2:=by assumption
   have hs0:¬y.c.state=0:=by assumption
   rw[if_neg (fun h=>hs0 (by have:=h.2;rw[sB hs2]at this;exact this)),eB hs2]
   exact fa_n (fun _ _=>rfl) (Pm.ent (fin {x with hand:=x.hand-1})) ⟨_,rfl,rfl⟩
  ·have hs2:y.c.state≠2:=by assumption
   rw[if_neg (fun h=>by have:=h.1;omega),eB hs2]
   exact fa_n (fun _ _=>rfl) (Pm.ent (fin {x with hand:=x.hand-1})) ⟨_,rfl,rfl⟩
theorem unit_a{a:Nat}{x:HX}(h:Sound x.H)(hph:x.H.phase≠0):FnA Tryd.prog 65 [ptr a] (hp a x) (fun v As=>∃z:HX,As=hp a z∧z.H=x.H.unitH):=by
 have h5:=h.r1.phase
 unfold Heap.unitH
 rcases(by omega:x.H.phase=1∨x.H.phase=2∨x.H.phase=3∨x.H.phase=4∨x.H.phase=5∨x.H.phase=6)with e|e|e|e|e|e
 ·rw[if_pos e];exact unit1_a h e
 ·rw[if_neg (by omega),if_pos e];exact unit2_a h e
 ·rw[if_neg (by omega),if_neg (by omega),if_pos e];exact unit3_a h e
 ·rw[if_neg (by omega),if_neg (by omega),if_neg (by omega),if_pos e];exact unit4_a h e
 ·rw[if_neg (by omega),if_neg (by omega),if_neg (by omega),if_neg (by omega),if_pos e];exact unit5_a h e
 ·rw[if_neg (by omega),if_neg (by omega),if_neg (by omega),if_neg (by omega),if_neg (by omega),if_pos e];exact unit6_a h e
def HX.ph(x:HX)(p hd:Int):HX:={x with phase:=p,hand:=hd,sub:=0}
theorem finish_a{a:Nat}{x:HX}(h:Sound x.H):FnA Tryd.prog 66 [ptr a] (hp a x) (fun v As=>∃z:HX,v=.int .i64 (outN x.H)∧As=hp a z∧z.H=x.H.outH):=by
 obtain⟨ho,hN⟩:=outN_ok h
 refine fnA_of (fun h=>fn66 (by simp) h) ?_
 repeat' (first
  |(refine k_L ?_;refine a_p rfl ?_)
  |refine a_n ?_
  |(refine k_V ?_;first|refine v_seq ?_|refine v_reg ?_))
 refine v_blk ?_
 refine v_loop (fun q:Nat×HX=>[(0,.v (ptr a)),(3,.v (.int .i64 q.1))]) (fun q=>hp a q.2) (fun k q=>k=outN x.H-q.1∧q.1≤outN x.H∧q.2.H=iterU q.1 x.H) ⟨_,(0,x),⟨rfl,rfl,trivial⟩,Ent.refl _,rfl,Nat.zero_le _,rfl⟩ ?_
 rintro k ⟨j,z⟩ ⟨rfl,hj,hz⟩
 simp only at hj hz
 dsimp only
 have hs:Sound z.H:=by rw[hz];exact iterU_sound j h
 have hp:=out_phase h hj
 rw[←hz]at hp
 have hph:z.hdr.phase=z.H.phase:=rfl
 by_cases e:j=outN x.H
 ·have e0:=hp.2 e
  repeat' (first
   |(refine k_L ?_;first|refine a_p rfl ?_|(refine k_l ?_;refine g_l rfl ?_))
   |refine a_n ?_
   |(refine k_V ?_;first|refine v_seq ?_|refine v_reg ?_|refine v_ret ?_|refine v_exit ?_|(refine v_cn rfl (fun hb=>?_) (fun hb=>?_)<;>try(exfalso;omega))))
  refine fa_r (fun _ _=>rfl) (Pm.ent (fin z)) ⟨z,?_,rfl,?_⟩
  ·rw[e]
  ·rw[hz,e];rfl
 ·have e0:z.H.phase≠0:=fun h'=>e (hp.1 h')
  repeat' (first
   |(refine k_L ?_;first|(refine k_ad ?_;refine g_ad rfl rfl ?_)|refine a_p rfl ?_|(refine k_l ?_;refine g_l rfl ?_)|(refine g_c rfl (unit_a hs e0) (fun v As' hq=>?_);obtain⟨u,rfl,hu⟩:=hq))
   |refine a_n ?_
   |(refine k_V ?_;first|refine v_seq ?_|refine v_reg ?_|refine v_bs ?_|refine v_skip ?_|(refine v_cn rfl (fun hb=>?_) (fun hb=>?_)<;>try(exfalso;omega)))
   |refine s_n ?_
   |refine b_n ?_)
  refine⟨outN x.H-(j+1),(j+1,u),by omega,⟨rfl,rfl,trivial⟩,Pm.ent pmt,rfl,by show j+1≤outN x.H;omega,?_⟩
  show u.H=iterU (j+1) x.H
  rw[iterU_succ,←hz];exact hu
theorem begin_H{x:HX}:x.begin.H=x.H.beginH:=by
 unfold HX.begin Heap.beginH
 by_cases e:x.phase=0
 ·rw[if_pos e,if_pos (show x.H.phase=0 from e)];exact enter_H
 ·rw[if_neg e,if_neg (show ¬x.H.phase=0 from e)]
theorem round_a{a:Nat}{x:HX}(h:Sound x.H):FnA Tryd.prog 56 [ptr a] (hp a x) (fun v As=>∃z:HX,As=hp a z∧z.H=x.H.roundH):=by
 obtain⟨o1,o2⟩:=outH_ok h
 refine fnA_of (fun h=>fn56 (by simp) h) ?_
 repeat' (first
  |(refine k_L ?_;refine a_p rfl ?_)
  |refine a_n ?_
  |(refine k_V ?_;first|refine v_seq ?_|refine v_reg ?_))
 refine g_c rfl (finish_a h) (fun v As' hq=>?_)
 obtain⟨z,rfl,rfl,hz⟩:=hq
 have zb:z.begin.H=x.H.outH.enterH 1:=by rw[begin_H,hz];unfold Heap.beginH;rw[if_pos o2]
 repeat' (first
  |(refine k_L ?_;first|refine a_p rfl ?_|(refine g_c rfl (begin_a (x:=z)) (fun v As' hq=>?_);subst hq))
  |refine a_n ?_
  |(refine k_V ?_;first|refine v_seq ?_|refine v_reg ?_))
 refine g_c rfl (finish_a (x:=z.begin) (by rw[zb];exact begin_sound o1 o2)) (fun v As' hq=>?_)
 obtain⟨u,rfl,rfl,hu⟩:=hq
 repeat' (first
  |(refine k_L ?_;first|(refine k_ad ?_;refine g_ad rfl rfl ?_)|(refine k_su ?_;refine g_su rfl rfl ?_)|(refine k_ml ?_;refine g_ml rfl rfl ?_)|refine a_p rfl ?_|(refine k_g ?_;first|refine a_gy rfl rfl ?_|refine a_gn rfl rfl ?_|refine a_gu rfl ?_|(refine a_gd rfl (fun hb=>?_) (fun hb=>?_)<;>try(exfalso;omega))|(refine a_ge rfl (fun hb=>?_) (fun hb=>?_)<;>try(exfalso;omega))|(refine a_gne rfl (fun hb=>?_) (fun hb=>?_)<;>try(exfalso;omega))|(refine a_gnd rfl (fun hb=>?_) (fun hb=>?_)<;>try(exfalso;omega)))|(refine k_l ?_;refine g_l rfl ?_)|(refine k_i ?_;refine g_i rfl rfl ?_)|(refine k_ls ?_;refine g_ls rfl ?_)|(refine k_st ?_;first|refine g_st rfl rfl rfl rfl ?_|refine g_sw rfl rfl rfl rfl (Nat.le_of_ble_eq_true rfl) ?_)|(refine k_al ?_;refine a_al ?_)|(refine k_bx ?_;refine a_bx rfl rfl ?_)|(refine k_bl ?_;refine a_bl rfl ?_)|(refine k_p ?_;first|(refine a_pd rfl (fun hb=>?_) (fun hb=>?_)<;>try(exfalso;omega))|(refine a_pe rfl (fun hb=>?_) (fun hb=>?_)<;>try(exfalso;omega))|(refine a_pne rfl (fun hb=>?_) (fun hb=>?_)<;>try(exfalso;omega))|(refine a_pnd rfl (fun hb=>?_) (fun hb=>?_)<;>try(exfalso;omega))))
  |refine a_n ?_
  |(refine k_V ?_;first|refine v_rv ?_|refine v_seq ?_|refine v_reg ?_|refine v_dreg ?_|refine v_zreg ?_|refine v_bs ?_|refine v_br ?_|refine v_bd ?_|refine v_bc ?_|refine v_bk ?_|refine v_bb ?_|refine v_ret ?_|refine v_exit ?_|refine v_skip ?_|refine v_ct rfl ?_|refine v_cf rfl ?_|(refine v_cd rfl (fun hb=>?_) (fun hb=>?_)<;>try(exfalso;omega))|(refine v_ce rfl (fun hb=>?_) (fun hb=>?_)<;>try(exfalso;omega))|(refine v_cn rfl (fun hb=>?_) (fun hb=>?_)<;>try(exfalso;omega))|(refine v_cnd rfl (fun hb=>?_) (fun hb=>?_)<;>try(exfalso;omega)))
  |refine s_n ?_
  |refine s_r ?_
  |refine s_e ?_
  |refine b_n ?_
  |refine b_r ?_
  |refine b_e ?_
  |refine b_o rfl ?_
  |refine r_rt ?_
  |refine r_bk rfl ?_
  |refine r_ex rfl rfl ?_
  |refine sk_zero ?_
  |refine sk_succ ?_
  |refine wk_nil ?_
  |refine wk_cons ?_)
 exact fa_n (fun _ _=>rfl) (Pm.ent (fin u)) ⟨_,rfl,by rw[hu,zb];rfl⟩
theorem step_a{a:Nat}{x:HX}{n:Int}(h:Sound x.H)(hn:0≤n∧n≤1000000000000):FnA Tryd.prog 55 [ptr a,.int .i64 n] (hp a x) (fun v As=>∃z:HX,v=.int .i64 (min n.toNat (outN x.H):Nat)∧As=hp a z∧z.H=iterU (min n.toNat (outN x.H)) x.H):=by
 obtain⟨ho,hN⟩:=outN_ok h
 refine fnA_of (fun h=>fn55 (by simp) h) ?_
 repeat' (first
  |(refine k_L ?_;refine a_p rfl ?_)
  |refine a_n ?_
  |(refine k_V ?_;first|refine v_seq ?_|refine v_reg ?_))
 generalize hm:min n.toNat (outN x.H)=mx
 have hm1:mx≤outN x.H:=by omega
 have hm2:(mx:Int)≤n:=by omega
 refine v_mono (Q:=seqA (Jx (fun z:HX=>[(0,.v (ptr a)),(5,.v (.int .i64 mx))]) (fun z=>hp a z) (fun z=>z.H=iterU mx x.H)) (fun _ _ _=>False)) ?_ ?_
 ·refine v_blk ?_
  refine v_loop (fun q:Nat×HX=>[(0,.v (ptr a)),(1,.v (.int .i64 n)),(5,.v (.int .i64 q.1))]) (fun q=>hp a q.2) (fun k q=>k=mx-q.1∧q.1≤mx∧q.2.H=iterU q.1 x.H) ⟨_,(0,x),⟨rfl,rfl,rfl,trivial⟩,Ent.refl _,rfl,Nat.zero_le _,rfl⟩ ?_
  rintro k ⟨j,z⟩ ⟨rfl,hj,hz⟩
  simp only at hj hz
  dsimp only
  have hs:Sound z.H:=by rw[hz];exact iterU_sound j h
  have hp:=out_phase h (j:=j) (by omega)
  rw[←hz]at hp
  have hph:z.hdr.phase=z.H.phase:=rfl
  by_cases e:j=mx
  ·subst e
   by_cases e1:(j:Int)<n
   ·have e0:z.H.phase=0:=hp.2 (by omega)
    repeat' (first
     |(refine k_L ?_;first|refine a_p rfl ?_|(refine k_g ?_;first|refine a_gy rfl rfl ?_|(refine a_gd rfl (fun hb=>?_) (fun hb=>?_)<;>try(exfalso;omega)))|(refine k_l ?_;refine g_l rfl ?_))
     |refine a_n ?_
     |(refine k_V ?_;first|refine v_seq ?_|refine v_reg ?_|refine v_exit ?_|(refine v_cn rfl (fun hb=>?_) (fun hb=>?_)<;>try(exfalso;omega)))
     |refine s_n ?_
     |refine s_e ?_
     |refine b_e ?_)
    exact j_i z hz
   ·repeat' (first
     |(refine k_L ?_;first|refine a_p rfl ?_|(refine k_g ?_;first|refine a_gn rfl rfl ?_|(refine a_gd rfl (fun hb=>?_) (fun hb=>?_)<;>try(exfalso;omega))))
     |refine a_n ?_
     |(refine k_V ?_;first|refine v_seq ?_|refine v_reg ?_|refine v_exit ?_|refine v_cf rfl ?_)
     |refine s_n ?_
     |refine s_e ?_
     |refine b_e ?_)
    exact j_i z hz
  ·have e0:z.H.phase≠0:=fun h'=>by have:=hp.1 h';omega
   repeat' (first
    |(refine k_L ?_;first|(refine k_ad ?_;refine g_ad rfl rfl ?_)|refine a_p rfl ?_|(refine k_g ?_;first|refine a_gy rfl rfl ?_|(refine a_gd rfl (fun hb=>?_) (fun hb=>?_)<;>try(exfalso;omega)))|(refine k_l ?_;refine g_l rfl ?_)|(refine g_c rfl (unit_a hs e0) (fun v As' hq=>?_);obtain⟨u,rfl,hu⟩:=hq))
    |refine a_n ?_
    |(refine k_V ?_;first|refine v_seq ?_|refine v_reg ?_|refine v_bs ?_|refine v_skip ?_|(refine v_cn rfl (fun hb=>?_) (fun hb=>?_)<;>try(exfalso;omega)))
    |refine s_n ?_
    |refine b_n ?_)
   refine⟨mx-(j+1),(j+1,u),by omega,⟨rfl,rfl,rfl,trivial⟩,Pm.ent pmt,rfl,by show j+1≤mx;omega,?_⟩
   show u.H=iterU (j+1) x.H
   rw[iterU_succ,←hz];exact hu
 rintro y S' As' hq
 cases y with
 |ret=>exact hq.elim
 |ext i=>exact hq.elim
 |nrm=>
 obtain⟨z,hl',he',hz⟩:=hq
 refine v_weak _ hl' (VA.ent he' ?_)
 repeat' (first
  |(refine k_L ?_;refine a_p rfl ?_)
  |refine a_n ?_
  |(refine k_V ?_;first|refine v_seq ?_|refine v_reg ?_|refine v_ret ?_))
 exact fa_r (fun _ _=>rfl) (Pm.ent (fin z)) ⟨z,rfl,rfl,hz⟩
end Go.Proofs.YtpleoapljeffiaaDoor.E
