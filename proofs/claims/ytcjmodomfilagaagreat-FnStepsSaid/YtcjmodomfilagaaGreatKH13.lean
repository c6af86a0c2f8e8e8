/- A part of the proof. Conditions: none. -/
import Derived.Test.YtcjmodomfilagaaGreatKH12
set_option linter.unusedVariables false
set_option linter.unusedSimpArgs false
set_option maxRecDepth 100000
namespace Go.Proofs.YtcjmodomfilagaaGreat.E
open Go
open Classical
theorem Sl.congr{M:Mem}{α:Type}{f:α→List Value}{size:Nat}{v:Value}{xs ys:List α}(h:Sl M size f v xs)(e:xs.map f=ys.map f):Sl M size f v ys:=by
 have hl:xs.length=ys.length:=by have:=congrArg List.length e;simpa using this
 have hf:xs.flatMap f=ys.flatMap f:=by rw[List.flatMap_def,List.flatMap_def,e]
 rcases h with⟨c,h1,h2,rfl⟩|⟨b,o,cap,row,h1,hM,hc,h2,hr,he⟩
 ·exact .inl ⟨c,h1,h2,by cases ys with|nil=>rfl|cons y r=>simp at hl⟩
 ·rw[hl]at h1 hc h2 he
  exact .inr ⟨b,o,cap,row,h1,hM,hc,h2,hr,by rw[he,hf]⟩
def gC(k:Int)(c:Cell):Cell:=⟨k,k+1,k+1+1,k+1+1+1,k+1+1+1+1,k+1+1+1+1+1,k+1+1+1+1+1+1,mkG gP wP (k+1+1+1+1+1+1+1) c.pairs⟩
def wC(c:Cell):Int:=7+6*c.pairs.length
def endH(k:Int)(H:Heap):Int:=mkT wI (mkT wC (mkT wW k H.regs) H.cells) H.gray
theorem mkT_wC:∀(cs:List Cell) (k:Int),mkT wC k cs=k+7*cs.length+6*pairsN cs
 |[],k=>by simp[mkT,pairsN]
 |c::r,k=>by
  have e:pairsN (c::r)=c.pairs.length+pairsN r:=by simp[pairsN]
  simp only[mkT,List.length_cons,e];rw[mkT_wC r];simp only[wC,Int.natCast_add];omega
theorem endH_eq(k:Int)(H:Heap):endH k H=k+3*H.regs.length+7*H.cells.length+6*pairsN H.cells+H.gray.length:=by
 unfold endH
 rw[mkT_const (w:=wI) (c:=1) (fun _=>rfl),mkT_wC,mkT_const (w:=wW) (c:=3) (fun _=>rfl)];omega
end Go.Proofs.YtcjmodomfilagaaGreat.E
set_option maxHeartbeats 8000000
namespace Go.Proofs.YtcjmodomfilagaaGreat.E
open Go
open Classical
theorem fna_ro{P:Program}{f:FuncId}{args:List Value}{Bs:List Asr}{q:Value→List Asr→Prop}(h:∀m,star Bs m→FnA P f args [ro m] (fun v As=>∃E,q v E∧As=E++[ro m])):FnA P f args Bs (fun v As=>∃E,q v E∧As=E++Bs):=
 ⟨fun m hm=>((h m hm).out m ⟨m,emp,disj_emp _,(un_emp _).symm,rfl,rfl⟩).mono fun v M' ⟨As',m',l,s,E,hq,e⟩=>by
   subst e
   obtain⟨a,b,d,rfl,h1,⟨b1,b2,d2,rfl,h2,h3⟩⟩:=star_append.1 s
   have h2:b1=m:=h2
   have h3:b2=emp:=h3
   subst h2;subst h3
   rw[un_emp]at d l
   exact⟨E++Bs,_,l,star_append.2 ⟨a,b1,d,rfl,h1,hm⟩,E,hq,rfl⟩⟩
theorem has_star{m:Mem}{Bs:List Asr}(h:star Bs m):Has m Bs:=⟨m,Mem.le_refl _,h⟩
theorem Has.sl{α:Type}{f:α→List Value}{size:Nat}{d:D}{xs:List α}{m:Mem}(h:Has m [slA size f d xs]):Sl m size f (.slice d.a xs.length d.cap) xs:=by
 obtain⟨a,l,b,c,dj,rfl,h1,_⟩:=h
 exact h1.1.le (Mem.le_trans (le_l _ _) l)
end Go.Proofs.YtcjmodomfilagaaGreat.E
namespace Go.Proofs.YtcjmodomfilagaaGreat.E
open Go
noncomputable def e28:Env:=⟨Tryz.prog,[5,36],40,[]⟩
abbrev zR(a0:Nat)(a1:Nat)(a2:Nat)(a3:Int):I:=⟨some a0,none,.call a1 [.tmp a2,.const (.int .i64 a3)]⟩
abbrev qd(a0:Nat)(a1:Int)(a2:Int)(a3:Int)(a4:Nat)(a5:Nat)(a6:Nat)(a7:Nat)(a8:Int)(a9:Int)(a10:Int)(a11:Nat)(a12:Nat)(a13:Int)(a14:Int)(a15:Int)(a16:Int)(a17:Int):I:=⟨some a0,none,.alloc true [.int .i64 a1,.int .i64 a2,.int .i64 a3,.slice none a4 a5,.slice none a6 a7,.int .i64 a8,.int .i64 a9,.int .i64 a10,.slice none a11 a12,.int .i64 a13,.int .i64 a14,.int .i64 a15,.int .i64 a16,.int .i64 a17]⟩
abbrev qt(a0:Nat)(a1:Nat)(a2:Nat)(a3:Int)(a4:Int)(a5:Int)(a6:Int)(a7:Int)(a8:Int)(a9:Nat)(a10:Nat):I:=⟨some a0,none,.app a1 a2 [.int .i64 a3,.int .i64 a4,.int .i64 a5,.int .i64 a6,.int .i64 a7,.int .i64 a8] (.tmp a9) (.tmp a10)⟩
abbrev qu(a0:Nat)(a1:Int)(a2:Int)(a3:Int)(a4:Int)(a5:Int)(a6:Int)(a7:Int)(a8:Nat)(a9:Nat):I:=⟨some a0,none,.build [.int .i64 a1,.int .i64 a2,.int .i64 a3,.int .i64 a4,.int .i64 a5,.int .i64 a6,.int .i64 a7,.slice none a8 a9] []⟩
abbrev jA(a0:Nat)(a1:Nat)(a2:Nat):I:=⟨some a0,none,.bslice false a1 a2 [] []⟩
abbrev jB(a0:Nat)(a1:Nat)(a2:Nat)(a3:Int)(a4:Int)(a5:Int)(a6:Int)(a7:Int)(a8:Int)(a9:Int)(a10:Nat)(a11:Nat)(a12:Nat)(a13:Nat)(a14:Nat):I:=⟨some a0,none,.bslice true a1 a2 [.int .i64 a3,.int .i64 a4,.int .i64 a5,.int .i64 a6,.int .i64 a7,.int .i64 a8,.int .i64 a9,.slice none a10 a11] [(a12,a13,.tmp a14)]⟩
abbrev jC(a0:Nat)(a1:Nat)(a2:Nat)(a3:Int)(a4:Int)(a5:Int)(a6:Int)(a7:Int)(a8:Int)(a9:Int)(a10:Nat)(a11:Nat)(a12:Nat)(a13:Nat):I:=⟨some a0,none,.app a1 a2 [.int .i64 a3,.int .i64 a4,.int .i64 a5,.int .i64 a6,.int .i64 a7,.int .i64 a8,.int .i64 a9,.slice none a10 a11] (.tmp a12) (.tmp a13)⟩
noncomputable def c28:C:=
 .seq (.reg [qX 1 0,qi 2]) (.seq (.reg [jA 6 0 3,z4 7 3 1,z5 8 1 7,⟨some 9,none,.app 3 24 [.int .i64 0,.int .i64 0,.int .i64 0] (.tmp 6) (.tmp 8)⟩,z4 10 3 1,z8 1 10 9]) (.seq (.reg [jA 11 0 1,z4 12 8 1,z5 13 1 12,qc 14 1 8 0 11 13,z4 15 8 1,z8 1 15 14]) (.seq (.reg [z4 16 4 1,z5 17 1 16,z3 3 17]) (.seq (.reg [z3 18 3,zI 19 18,⟨some 20,none,.mkslice 8 80 [.int .i64 0,.int .i64 0,.int .i64 0,
 .int .i64 0,.int .i64 0,.int .i64 0,.int .i64 0,.slice none 0 0] (.const (.int .i64 0)) (.tmp 19)⟩,z4 21 4 1,z8 1 21 20]) (.seq (.seq (.reg [z3 22 3,zI 23 22,zC 24 0]) (.block 0 (.loop (.seq (.reg [zQ 25 24 23]) (.seq (.cond (.tmp 25) .skip (.exit 0)) (.seq (.block 1 (.seq (.reg [z9 26 8 22 24,zA 27 8 26,zX 5 0 0 0 0 0 0 0 0 0,z8 8 5 27]) (.seq (.reg [jA 28 0 6,z4 29 7 5,z5 30 1 29,qt 31 6 48
 0 0 0 0 0 0 28 30,z4 32 7 5,z8 1 32 31]) (.reg [z4 33 4 1,z5 34 1 33,zA 35 8 5,jB 36 1 8 0 0 0 0 0 0 0 0 0 0 8 35,jC 37 8 80 0 0 0 0 0 0 0 0 0 34 36,z4 38 4 1,z8 1 38 37])))) (.reg [zP 39 24 1,z3 24 39]))))))) (.seq (.reg [z3 2 1]) .ret))))))
theorem t28:Tryz.f28.body.bind (trC e28)=some c28:=by kernel_rfl
theorem r28:Tryz.f28.results.toList.mapM (trR Tryz.prog)=some [.tmp 2]:=by kernel_rfl
theorem fn28{args:List Value}{M:Mem}{post:Value→Mem→Prop}(hl:args.length≤40)(h:VC e28 c28 (fnQ [.tmp 2] post) (initS args 40) M):Fn Tryz.prog 28 args M post:=
 Fn.of' (E:=e28) Tryz.func28 t28 rfl r28 mixed hl h
noncomputable def e124:Env:=⟨Tryz.prog,[30],34,[]⟩
noncomputable def c124:C:=
 .seq (.reg [z3 4 0,zM 5 86 4,z3 6 5,zF 7 6 0,zT 8 6 7,zE 9 6 4 8,zD 10 6 1 9,zF 11 6 1,zn 12 6 8 10 11,zE 13 6 5 12,zD 14 6 1 13,zV 15 6 14 0,zL 16 6 15]) (.cond (.tmp 16) (.seq (.reg [z3 17 0,z6 18 17,z4 19 4 18,z5 20 1 19,z3 21 1,z9 22 8 20 21,z4 23 5 22,zo 1 23 1]) (.reg [z3 24 0,z3 25 0,z6 26 25,z4 27 8 26,z5 28 1 27,z3 29 1,ql 30 1 1 0 0 1 29,qc 31 1 8 0 28 30,z6 32 24,z4 33 8 32,z8 1 33
 31])) .skip)
theorem t124:Tryz.f124.body.bind (trC e124)=some c124:=by kernel_rfl
theorem r124:Tryz.f124.results.toList.mapM (trR Tryz.prog)=some []:=by kernel_rfl
theorem fn124{args:List Value}{M:Mem}{post:Value→Mem→Prop}(hl:args.length≤34)(h:VC e124 c124 (fnQ [] post) (initS args 34) M):Fn Tryz.prog 124 args M post:=
 Fn.of' (E:=e124) Tryz.func124 t124 rfl r124 mixed hl h
noncomputable def e131:Env:=⟨Tryz.prog,[3],25,[]⟩
noncomputable def c131:C:=
 .seq (.reg [zY 3 1,zJ 4]) (.seq (.reg [z3 6 0,zA 7 3 3,zU 8 64 6 7,z3 5 8]) (.seq (.seq (.reg [z3 9 5,qO 10 9 0,z3 11 10,zN 12 11 0,zZ 13 11 12,zG 14 11 4 13,zK 15 11 1 14,zN 16 11 5,qG 17 11 8 15 16,zG 18 11 5 17,zK 19 11 1 18,zy 20 11 19 0,zO 21 11 20]) (.cond (.tmp 21) (.seq (.reg [zJ 4]) .ret) .skip)) (.seq (.reg [z3 22 0,z3 23 5,zU 24 124 22 23]) (.seq (.reg [za 4]) .ret))))
theorem t131:Tryz.f131.body.bind (trC e131)=some c131:=by kernel_rfl
theorem r131:Tryz.f131.results.toList.mapM (trR Tryz.prog)=some [.tmp 4]:=by kernel_rfl
theorem fn131{args:List Value}{M:Mem}{post:Value→Mem→Prop}(hl:args.length≤25)(h:VC e131 c131 (fnQ [.tmp 4] post) (initS args 25) M):Fn Tryz.prog 131 args M post:=
 Fn.of' (E:=e131) Tryz.func131 t131 rfl r131 mixed hl h
noncomputable def e88:Env:=⟨Tryz.prog,[],24,[]⟩
noncomputable def c88:C:=
 .seq (.reg [z3 4 0,z3 5 0,z3 6 0,z3 7 1,z6 8 4,z4 9 5 8,z8 1 9 7,z6 10 5,z4 11 6 10,zo 1 11 0,z6 12 6,z4 13 7 12,zo 1 13 0]) (.seq (.reg [z3 14 1,z7 15 14 6]) (.cond (.tmp 15) (.reg [z3 16 0,z3 17 0,z6 18 17,z4 19 4 18,z5 20 1 19,zI 21 20,z6 22 16,z4 23 6 22,z8 1 23 21]) .skip))
theorem t88:Tryz.f88.body.bind (trC e88)=some c88:=by kernel_rfl
theorem r88:Tryz.f88.results.toList.mapM (trR Tryz.prog)=some []:=by kernel_rfl
theorem fn88{args:List Value}{M:Mem}{post:Value→Mem→Prop}(hl:args.length≤24)(h:VC e88 c88 (fnQ [] post) (initS args 24) M):Fn Tryz.prog 88 args M post:=
 Fn.of' (E:=e88) Tryz.func88 t88 rfl r88 mixed hl h
noncomputable def e89:Env:=⟨Tryz.prog,[],263,[(5,11),(13,9),(15,11),(24,9),(25,10),(26,9),(27,16),(36,12),(37,10),(38,21)]⟩
noncomputable def c89:C:=
 .seq (.reg [z3 6 0,z6 7 6,z4 8 4 7,z5 9 1 8,zI 10 9,z3 2 10]) (.seq (.reg [z3 11 0,z6 12 11,z4 13 5 12,z5 14 1 13]) (.block 0 (.seq (.reg [z7 16 14 1,z3 15 16]) (.cond (.tmp 15) (.seq (.seq (.reg [z3 17 0,z6 18 17,z4 19 6 18,z5 20 1 19,z3 21 2,zz 22 20 21]) (.cond (.tmp 22) (.seq (.reg [z3 23 0,zR 24 88 23 2]) .ret) .skip)) (.seq (.seq (.dreg 11 [z3 25 0,z6 26 25,z4 27 4 26,z5 28 1 27,z3 29
 0,z6 30 29,z4 31 6 30,z5 32 1 31,z9 33 8 28 32,zA 34 8 33,qM 35 66 34]) (.cond (.tmp 35) (.reg [z3 36 0,z3 37 0,z6 38 37,z4 39 6 38,z5 40 1 39,zU 41 124 36 40]) .skip)) (.reg [z3 42 0,z6 43 42,z4 44 6 43,z5 45 1 44,zP 46 45 1,z6 47 42,z4 48 6 47,z8 1 48 46]))) (.seq (.reg [z7 50 14 2,z3 49 50]) (.cond (.tmp 49) (.reg [z3 51 0,zM 52 125 51]) (.seq (.reg [z7 54 14 3,z3 53 54]) (.cond (.tmp 53)
 (.seq (.seq (.reg [z3 55 0,z6 56 55,z4 57 6 56,z5 58 1 57,z3 59 2,zz 60 58 59]) (.cond (.tmp 60) (.seq (.reg [z3 61 0,zR 62 88 61 4]) .ret) .skip)) (.seq (.dreg 9 [z3 63 0,z6 64 63,z4 65 4 64,z5 66 1 65,z3 67 0,z6 68 67,z4 69 6 68,z5 70 1 69,z9 71 8 66 70,z3 3 71]) (.seq (.seq (.reg [z3 72 3,z6 73 72,z4 74 0 73,z5 75 1 74,z7 76 75 1,z3 77 76,zF 78 77 3,zT 79 77 78,zE 80 77 5 79,zD 81 77 1 80,
 zV 82 77 81 0,zL 83 77 82]) (.cond (.tmp 83) (.seq (.dreg 11 [z3 84 0,z6 85 84,z4 86 1 85,z5 87 1 86,z3 88 3,z6 89 88,zA 90 8 89,qM 91 80 90,⟨some 92,none,.bin .sub (.tmp 87) (.tmp 91)⟩,z6 93 84,z4 94 1 93,z8 1 94 92]) (.reg [z3 95 3,qu 96 0 0 0 0 0 0 0 0 0,z6 97 95,z8 8 97 96])) (.reg [z3 98 3,z6 99 98,z4 100 5 99,zo 1 100 0]))) (.reg [z3 101 0,z6 102 101,z4 103 6 102,z5 104 1 103,zP 105 104
 1,z6 106 101,z4 107 6 106,z8 1 107 105])))) (.seq (.reg [z7 109 14 4,z3 108 109]) (.cond (.tmp 108) (.reg [z3 110 0,zM 111 126 110]) (.seq (.reg [z7 113 14 5,z3 112 113]) (.cond (.tmp 112) (.seq (.seq (.reg [z3 114 0,z6 115 114,z4 116 6 115,z5 117 1 116,z3 118 2,zz 119 117 118]) (.cond (.tmp 119) (.seq (.reg [z3 120 0,zR 121 88 120 6]) .ret) .skip)) (.seq (.dreg 9 [z3 122 0,z6 123 122,z4
 124 4 123,z5 125 1 124,z3 126 0,z6 127 126,z4 128 6 127,z5 129 1 128,z9 130 8 125 129,z3 4 130]) (.seq (.seq (.dreg 10 [z3 131 0,z6 132 131,z4 133 7 132,z5 134 1 133,z3 135 4,z6 136 135,z4 137 7 136,z5 138 1 137,zI 139 138,zQ 140 134 139]) (.cond (.tmp 140) (.seq (.dreg 9 [z3 141 4,z6 142 141,z4 143 7 142,z5 144 1 143,z3 145 0,z6 146 145,z4 147 7 146,z5 148 1 147,z9 149 6 144 148,z3 5 149])
 (.seq (.dreg 16 [z3 150 5,z3 151 5,z3 152 0,z3 153 5,z6 154 153,z4 155 0 154,zA 156 3 155,qW 157 112 152 156,z3 158 0,z3 159 5,z6 160 159,z4 161 3 160,zA 162 3 161,qW 163 112 158 162,z6 164 150,z4 165 0 164,z8 3 165 157,z6 166 151,z4 167 3 166,z8 3 167 163]) (.seq (.reg [z3 168 0,z6 169 168,z4 170 7 169,z5 171 1 170,zP 172 171 1,z6 173 168,z4 174 7 173,z8 1 174 172]) .ret))) .skip)) (.seq (.reg
 [z3 175 0,z6 176 175,z4 177 6 176,z5 178 1 177,zP 179 178 1,z6 180 175,z4 181 6 180,z8 1 181 179]) (.reg [z3 182 0,z6 183 182,z4 184 7 183,zo 1 184 0]))))) (.seq (.reg [z7 186 14 6,z3 185 186]) (.cond (.tmp 185) (.seq (.seq (.reg [z3 187 0,z6 188 187,z4 189 6 188,z5 190 1 189,z7 191 190 0]) (.cond (.tmp 191) (.seq (.reg [z3 192 0,zR 193 88 192 0]) (.seq (.reg [z3 194 0,z3 195 0,z6 196 195,
 z4 197 11 196,z5 198 1 197,zP 199 198 1,⟨some 200,none,.min (.tmp 199) (.const (.int .i64 1000000000))⟩,z6 201 194,z4 202 11 201,z8 1 202 200]) .ret)) .skip)) (.seq (.reg [z3 203 0,z6 204 203,z4 205 6 204,z5 206 1 205,ze 207 206 1,z6 208 203,z4 209 6 208,z8 1 209 207]) (.seq (.seq (.dreg 12 [z3 210 0,z6 211 210,z4 212 4 211,z5 213 1 212,z3 214 0,z6 215 214,z4 216 6 215,z5 217 1 216,z9 218 8 213
 217,z4 219 0 218,z5 220 1 219,z7 221 220 2]) (.cond (.tmp 221) (.dreg 10 [z3 222 0,z6 223 222,z4 224 4 223,z5 225 1 224,z3 226 0,z6 227 226,z4 228 6 227,z5 229 1 228,qu 230 0 0 0 0 0 0 0 0 0,z9 231 8 225 229,z8 8 231 230]) .skip)) (.seq (.dreg 21 [z3 232 0,z6 233 232,z4 234 6 233,z5 235 1 234,z3 236 2,ze 237 236 1,zz 238 235 237,z3 239 238,zF 240 239 0,zT 241 239 240,zE 242 239 4 241,zD 243 239
 1 242,zF 244 239 0,zT 245 239 244,zE 246 239 6 245,zD 247 239 1 246,zn 248 239 8 243 247,zE 249 239 0 248,zD 250 239 1 249,zV 251 239 250 0,zL 252 239 251]) (.cond (.tmp 252) (.reg [z3 253 0,z3 254 0,z6 255 254,z4 256 4 255,z5 257 1 256,z3 258 2,ze 259 258 1,j5 260 8 257 259,z6 261 253,z4 262 4 261,z8 1 262 260]) .skip))))) .skip))))))))))))))
theorem t89:Tryz.f89.body.bind (trC e89)=some c89:=by kernel_rfl
theorem r89:Tryz.f89.results.toList.mapM (trR Tryz.prog)=some []:=by kernel_rfl
theorem fn89{args:List Value}{M:Mem}{post:Value→Mem→Prop}(hl:args.length≤263)(h:VC e89 c89 (fnQ [] post) (initS args 263) M):Fn Tryz.prog 89 args M post:=
 Fn.of' (E:=e89) Tryz.func89 t89 rfl r89 mixed hl h
noncomputable def e125:Env:=⟨Tryz.prog,[3,6],90,[(1,11),(2,10),(3,11)]⟩
noncomputable def c125:C:=
 .seq (.seq (.reg [z3 7 0,z6 8 7,z4 9 8 8,z5 10 1 9,zI 11 10,q0 12 11 0]) (.cond (.tmp 12) (.seq (.dreg 11 [z3 13 0,z6 14 13,z4 15 4 14,z5 16 1 15,z3 17 0,z6 18 17,z4 19 8 18,z5 20 1 19,qj 21 1 20 0,z5 22 1 21,z9 23 8 16 22,z3 2 23]) (.seq (.seq (.dreg 10 [z3 24 0,z6 25 24,z4 26 7 25,z5 27 1 26,z3 28 2,z6 29 28,z4 30 7 29,z5 31 1 30,zI 32 31,zQ 33 27 32]) (.cond (.tmp 33) (.seq (.dreg 11 [z3
 34 2,z6 35 34,z4 36 7 35,z5 37 1 36,z3 38 0,z6 39 38,z4 40 7 39,z5 41 1 40,z9 42 6 37 41,zA 43 6 42,q7 3 0 0 0 0 0 0,z8 6 3 43]) (.seq (.reg [z3 44 0,z4 45 0 3,zA 46 3 45,zU 47 131 44 46]) (.seq (.reg [z3 48 0,z4 49 3 3,zA 50 3 49,zU 51 131 48 50]) (.seq (.reg [z3 52 0,z6 53 52,z4 54 7 53,z5 55 1 54,zP 56 55 1,z6 57 52,z4 58 7 57,z8 1 58 56]) .ret)))) .skip)) (.seq (.reg [z3 59 2,z6 60 59,z4
 61 5 60,zo 1 61 2]) (.seq (.reg [z3 62 0,z3 63 0,z6 64 63,z4 65 8 64,z5 66 1 65,⟨some 67,none,.slc 1 (.tmp 66) (some (.const (.int .i64 1))) none⟩,z6 68 62,z4 69 8 68,z8 1 69 67]) (.seq (.reg [z3 70 0,z6 71 70,z4 72 7 71,zo 1 72 0]) .ret))))) .skip)) (.seq (.reg [zJ 4]) (.seq (.seq (.reg [z3 73 0,z6 74 73,z4 75 3 74,z5 76 1 75,zI 77 76,zC 78 0]) (.block 0 (.loop (.seq (.reg [zQ 79 78 77])
 (.seq (.cond (.tmp 79) .skip (.exit 0)) (.seq (.block 1 (.seq (.reg [z9 80 3 76 78,zA 81 3 80,zt 6 0 0 0,z8 3 6 81]) (.seq (.reg [z3 82 0,zA 83 3 6,zU 84 131 82 83]) (.cond (.tmp 84) (.reg [za 4]) .skip)))) (.reg [zP 85 78 1,z3 78 85]))))))) (.seq (.reg [z3 86 4,zW 87 86]) (.cond (.tmp 87) (.reg [z3 88 0,zR 89 88 88 3]) .skip))))
theorem t125:Tryz.f125.body.bind (trC e125)=some c125:=by kernel_rfl
theorem r125:Tryz.f125.results.toList.mapM (trR Tryz.prog)=some []:=by kernel_rfl
theorem fn125{args:List Value}{M:Mem}{post:Value→Mem→Prop}(hl:args.length≤90)(h:VC e125 c125 (fnQ [] post) (initS args 90) M):Fn Tryz.prog 125 args M post:=
 Fn.of' (E:=e125) Tryz.func125 t125 rfl r125 mixed hl h
noncomputable def e126:Env:=⟨Tryz.prog,[5,7],88,[(11,13)]⟩
noncomputable def c126:C:=
 .seq (.reg [z3 8 0,z6 9 8,z4 10 4 9,z5 11 1 10,zI 12 11,z3 2 12,zC 3 (-1)]) (.seq (.seq (.reg [z3 13 0,z6 14 13,z4 15 4 14,z5 16 1 15,zI 17 16,zC 18 0]) (.block 0 (.loop (.seq (.reg [zQ 19 18 17]) (.seq (.cond (.tmp 19) .skip (.exit 0)) (.seq (.block 1 (.seq (.reg [z3 20 18,z9 21 8 16 18,zA 22 8 21,zX 5 0 0 0 0 0 0 0 0 0,z3 4 20,z8 8 5 22]) (.seq (.seq (.reg [z4 23 0 5,z5 24 1 23,z7 25 24
 0]) (.cond (.tmp 25) (.reg [z3 26 2,z3 27 4,⟨some 28,none,.min (.tmp 26) (.tmp 27)⟩,z3 2 28]) .skip)) (.seq (.reg [z4 29 0 5,z5 30 1 29,z7 31 30 1]) (.cond (.tmp 31) (.reg [z3 32 4,z3 3 32]) .skip))))) (.reg [zP 33 18 1,z3 18 33]))))))) (.seq (.seq (.reg [z3 34 2,z3 35 3,qg 36 34 35]) (.cond (.tmp 36) (.seq (.reg [z3 37 0,zR 38 88 37 5]) .ret) .skip)) (.seq (.dreg 13 [z3 39 0,z6 40 39,z4
 41 4 40,z5 42 1 41,z3 43 2,z3 44 0,z6 45 44,z4 46 4 45,z5 47 1 46,z3 48 3,z9 49 8 47 48,zA 50 8 49,z9 51 8 42 43,z8 8 51 50]) (.seq (.reg [z3 52 0,z6 53 52,z4 54 4 53,z5 55 1 54,z3 56 3,z3 57 2,⟨some 58,none,.build [.int .i64 0,.int .i64 0,.int .i64 0,.int .i64 0,.int .i64 0,.int .i64 0,.int .i64 0,.slice none 0 0] [(0,1,.const (.int .i64 2)),(6,1,.tmp 57)]⟩,z9 59 8 55 56,z8 8 59 58]) (.seq
 (.reg [z3 60 0,z6 61 60,z4 62 3 61,z5 63 1 62,zI 64 63,zC 65 0]) (.block 2 (.loop (.seq (.reg [zQ 66 65 64]) (.seq (.cond (.tmp 66) .skip (.exit 2)) (.seq (.block 3 (.seq (.reg [z3 67 65,z9 68 3 63 65,zA 69 3 68,zt 7 0 0 0,z3 6 67,z8 3 7 69]) (.seq (.reg [z4 70 0 7,z5 71 1 70,z7 72 71 2,z3 73 72,zE 74 73 2 7,zD 75 73 1 74,zF 76 73 3,q8 77 73 75 76,zL 78 73 77]) (.cond (.tmp 78) (.reg [z3 79
 0,z6 80 79,z4 81 3 80,z5 82 1 81,z3 83 6,z3 84 2,z9 85 3 82 83,z4 86 2 85,z8 1 86 84]) .skip)))) (.reg [zP 87 65 1,z3 65 87])))))))))))
theorem t126:Tryz.f126.body.bind (trC e126)=some c126:=by kernel_rfl
theorem r126:Tryz.f126.results.toList.mapM (trR Tryz.prog)=some []:=by kernel_rfl
theorem fn126{args:List Value}{M:Mem}{post:Value→Mem→Prop}(hl:args.length≤88)(h:VC e126 c126 (fnQ [] post) (initS args 88) M):Fn Tryz.prog 126 args M post:=
 Fn.of' (E:=e126) Tryz.func126 t126 rfl r126 mixed hl h
noncomputable def e48:Env:=⟨Tryz.prog,[],9,[]⟩
noncomputable def c48:C:=
 .seq (.reg [z3 2 0,z6 3 2,z4 4 5 3,z5 5 1 4,z7 6 5 0]) (.cond (.tmp 6) (.reg [z3 7 0,zR 8 88 7 1]) .skip)
theorem t48:Tryz.f48.body.bind (trC e48)=some c48:=by kernel_rfl
theorem r48:Tryz.f48.results.toList.mapM (trR Tryz.prog)=some []:=by kernel_rfl
theorem fn48{args:List Value}{M:Mem}{post:Value→Mem→Prop}(hl:args.length≤9)(h:VC e48 c48 (fnQ [] post) (initS args 9) M):Fn Tryz.prog 48 args M post:=
 Fn.of' (E:=e48) Tryz.func48 t48 rfl r48 mixed hl h
noncomputable def e49:Env:=⟨Tryz.prog,[],21,[]⟩
noncomputable def c49:C:=
 .seq (.reg [zC 4 0]) (.seq (.reg [zC 5 0]) (.seq (.block 0 (.loop (.seq (.seq (.reg [z3 6 5,z3 7 1,zQ 8 6 7,z3 9 8,zF 10 9 0,zT 11 9 10,zE 12 9 5 11,zD 13 9 1 12,q4 14 9 13 0,zL 15 9 14]) (.cond (.tmp 15) .skip (.exit 0))) (.block 1 (.seq (.reg [z3 16 0,zM 17 89 16]) (.reg [z3 18 5,zP 19 18 1,z3 5 19])))))) (.seq (.reg [z3 20 5,z3 4 20]) .ret)))
theorem t49:Tryz.f49.body.bind (trC e49)=some c49:=by kernel_rfl
theorem r49:Tryz.f49.results.toList.mapM (trR Tryz.prog)=some [.tmp 4]:=by kernel_rfl
theorem fn49{args:List Value}{M:Mem}{post:Value→Mem→Prop}(hl:args.length≤21)(h:VC e49 c49 (fnQ [.tmp 4] post) (initS args 21) M):Fn Tryz.prog 49 args M post:=
 Fn.of' (E:=e49) Tryz.func49 t49 rfl r49 mixed hl h
noncomputable def e51:Env:=⟨Tryz.prog,[],14,[]⟩
noncomputable def c51:C:=
 .seq (.reg [zC 2 0]) (.seq (.reg [zC 3 0]) (.seq (.block 0 (.loop (.seq (.seq (.reg [z3 4 0,z6 5 4,z4 6 5 5,z5 7 1 6,zj 8 7 0]) (.cond (.tmp 8) .skip (.exit 0))) (.block 1 (.seq (.reg [z3 9 0,zM 10 89 9]) (.reg [z3 11 3,zP 12 11 1,z3 3 12])))))) (.seq (.reg [z3 13 3,z3 2 13]) .ret)))
theorem t51:Tryz.f51.body.bind (trC e51)=some c51:=by kernel_rfl
theorem r51:Tryz.f51.results.toList.mapM (trR Tryz.prog)=some [.tmp 2]:=by kernel_rfl
theorem fn51{args:List Value}{M:Mem}{post:Value→Mem→Prop}(hl:args.length≤14)(h:VC e51 c51 (fnQ [.tmp 2] post) (initS args 14) M):Fn Tryz.prog 51 args M post:=
 Fn.of' (E:=e51) Tryz.func51 t51 rfl r51 mixed hl h
noncomputable def e17:Env:=⟨Tryz.prog,[2,4],30,[]⟩
noncomputable def c17:C:=
 .seq (.reg [zY 2 0,qd 4 0 0 0 0 0 0 0 0 0 0 0 0 0 0 0 0 0]) (.seq (.seq (.reg [zA 7 13 2,zM 8 25 7,zW 9 8,z3 10 9,zN 11 10 1,j6 12 10 47 11 0 100000,zf 13 10 12,zO 14 10 13]) (.cond (.tmp 14) (.seq (.reg [⟨some 15,none,.build [.int .i64 0,.int .i64 0,.int .i64 0,.slice none 0 0,.slice none 0 0,.int .i64 0,.int .i64 0,.int .i64 0,.slice none 0 0,.int .i64 0,.int .i64 0,.int .i64 0,.int .i64 0,
 .int .i64 0] []⟩,z8 14 4 15]) .ret) .skip)) (.seq (.reg [zA 16 13 2,zM 17 28 16,z3 5 17]) (.seq (.seq (.reg [z3 18 1,q0 19 18 0]) (.cond (.tmp 19) (.reg [z3 20 5,zM 21 48 20]) .skip)) (.seq (.reg [z3 22 5,z3 23 1,zU 24 49 22 23,z3 6 24]) (.seq (.reg [z3 25 5,z6 26 25,zA 27 13 26,z3 28 6,⟨some 29,none,.build [.int .i64 0,.int .i64 0,.int .i64 0,.slice none 0 0,.slice none 0 0,.int .i64 0,.int
 .i64 0,.int .i64 0,.slice none 0 0,.int .i64 0,.int .i64 0,.int .i64 0,.int .i64 0,.int .i64 0] [(0,13,.tmp 27),(13,1,.tmp 28)]⟩,z8 14 4 29]) .ret)))))
theorem t17:Tryz.f17.body.bind (trC e17)=some c17:=by kernel_rfl
theorem r17:Tryz.f17.results.toList.mapM (trR Tryz.prog)=some [.cell 4 false 14]:=by kernel_rfl
theorem fn17{args:List Value}{M:Mem}{post:Value→Mem→Prop}(hl:args.length≤30)(h:VC e17 c17 (fnQ [.cell 4 false 14] post) (initS args 30) M):Fn Tryz.prog 17 args M post:=
 Fn.of' (E:=e17) Tryz.func17 t17 rfl r17 mixed hl h
noncomputable def e19:Env:=⟨Tryz.prog,[1],9,[]⟩
noncomputable def c19:C:=
 .seq (.reg [zY 1 0,zC 2 0]) (.seq (.seq (.reg [zA 3 13 1,zM 4 25 3,zW 5 4]) (.cond (.tmp 5) (.seq (.reg [zC 2 0]) .ret) .skip)) (.seq (.reg [zA 6 13 1,zM 7 28 6,zM 8 51 7,z3 2 8]) .ret))
theorem t19:Tryz.f19.body.bind (trC e19)=some c19:=by kernel_rfl
theorem r19:Tryz.f19.results.toList.mapM (trR Tryz.prog)=some [.tmp 2]:=by kernel_rfl
theorem fn19{args:List Value}{M:Mem}{post:Value→Mem→Prop}(hl:args.length≤9)(h:VC e19 c19 (fnQ [.tmp 2] post) (initS args 9) M):Fn Tryz.prog 19 args M post:=
 Fn.of' (E:=e19) Tryz.func19 t19 rfl r19 mixed hl h
end Go.Proofs.YtcjmodomfilagaaGreat.E
set_option maxHeartbeats 4000000
namespace Go.Proofs.YtcjmodomfilagaaGreat.E
open Go
open Classical
def HX.enter(x:HX)(p:Int):HX:={x with phase:=p,hand:=if p=6 then x.xs.length else 0,sub:=0}
theorem enter_a{a:Nat}{x:HX}{p:Int}:FnA Tryz.prog 88 [ptr a,.int .i64 p] (hp a x) (fun v As=>As=hp a (x.enter p)):=by
 refine fnA_of (fun h=>fn88 (by simp) h) ?_
 repeat' (first
  |(refine k_L ?_;first|refine a_p rfl ?_|(refine k_l ?_;refine g_l rfl ?_)|(refine k_st ?_;refine g_st rfl rfl rfl rfl ?_))
  |refine a_n ?_
  |(refine k_V ?_;first|refine v_seq ?_|refine v_reg ?_|refine v_skip ?_|(refine v_cd rfl (fun hb=>?_) (fun hb=>?_)<;>try(exfalso;omega))))
 ·subst hb;exact fa_n (fun _ _=>rfl) (Pm.ent (fin _)) rfl
 ·refine fa_n (fun _ _=>rfl) (Pm.ent (fin (x.enter p) (e1:=?_))) rfl
  unfold HX.enter;rw[if_neg hb];rfl
def HX.begin(x:HX):HX:=if x.phase=0 then x.enter 1 else x
theorem begin_a{a:Nat}{x:HX}:FnA Tryz.prog 48 [ptr a] (hp a x) (fun v As=>As=hp a x.begin):=by
 refine fnA_of (fun h=>fn48 (by simp) h) ?_
 unfold HX.begin
 repeat' (first
  |(refine k_L ?_;first|refine a_p rfl ?_|(refine k_l ?_;refine g_l rfl ?_)|(refine g_c rfl enter_a (fun v As' hq=>?_);subst hq))
  |refine a_n ?_
  |(refine k_V ?_;first|refine v_seq ?_|refine v_reg ?_|refine v_skip ?_|(refine v_cd rfl (fun hb=>?_) (fun hb=>?_)<;>try(exfalso;omega))))
 ·rw[if_pos (show x.phase=0 from hb)];exact fa_n (fun _ _=>rfl) (Pm.ent (fin _)) rfl
 ·rw[if_neg (show ¬x.phase=0 from hb)];exact fa_n (fun _ _=>rfl) (Pm.ent (fin _)) rfl
def HX.shade(x:HX)(i:Nat)(y:CS)(e:D):HX:={x with xs:=x.xs.set i (y.s_color 1),gray:=x.gray++[(i:Int)],gd:=e}
theorem shade_a{a:Nat}{x:HX}{i:Nat}{y:CS}(hi:x.xs[i]?=some y)(hg:x.gray.length≤1000000):FnA Tryz.prog 124 [ptr a,.int .i64 i] (hp a x) (fun v As=>∃z:HX,As=hp a z∧if Marking x.H∧y.c.color=0 then ∃e,z=x.shade i y e else z=x):=by
 have hlt:=(List.getElem?_eq_some_iff.1 hi).1
 refine fnA_of (fun h=>fn124 (by simp) h) ?_
 repeat' (first
  |(refine k_L ?_;first|refine a_p rfl ?_|(refine k_g ?_;first|refine a_gy rfl rfl ?_|refine a_gn rfl rfl ?_|(refine a_gd rfl (fun hb=>?_) (fun hb=>?_)<;>try(exfalso;omega)))|(refine k_l ?_;refine g_l rfl ?_)|(refine k_i ?_;refine g_i rfl rfl ?_)|(refine k_st ?_;refine g_st rfl rfl rfl rfl ?_)|(refine k_bl ?_;refine a_bl rfl ?_)|(refine k_c ?_;refine a_cq rfl (fun m hm=>marking_q (ph_g (x:=x) hm)) ?_)|(refine g_ai rfl rfl (by omega) (fun e'=>?_)))
  |refine a_n ?_
  |(refine k_V ?_;first|refine v_seq ?_|refine v_reg ?_|refine v_skip ?_|refine v_cf rfl ?_|(refine v_cd rfl (fun hb=>?_) (fun hb=>?_)<;>try(exfalso;omega))))
 ·refine fa_n (fun _ _=>rfl) (Pm.ent (fin (x.shade i y e'))) ⟨_,rfl,?_⟩
  rw[if_pos ⟨‹_›,‹_›⟩];exact⟨_,rfl⟩
 all_goals refine fa_n (fun _ _=>rfl) (Pm.ent (fin x)) ⟨_,rfl,?_⟩
 all_goals rw[if_neg (by simp_all)]
end Go.Proofs.YtcjmodomfilagaaGreat.E
