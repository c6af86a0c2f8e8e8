/- A part of the proof. Conditions: none. -/
import Derived.Test.YtpleoapljeffiaaGreatDoorKE14
set_option linter.unusedVariables false
set_option linter.unusedSimpArgs false
set_option maxHeartbeats 8000000
set_option maxRecDepth 100000
namespace Go.Proofs.YtpleoapljeffiaaGreatDoor.E
open Go
open Classical
theorem fna_ro{P:Program}{f:FuncId}{args:List Value}{Bs:List Asr}{q:Value→List Asr→Prop}(h:∀m,star Bs m→FnA P f args [ro m] (fun v As=>∃E,q v E∧As=E++[ro m])):FnA P f args Bs (fun v As=>∃E,q v E∧As=E++Bs):=
 ⟨fun m hm=>((h m hm).out m ⟨m,emp,disj_emp _,(un_emp _).symm,rfl,rfl⟩).mono fun v M' ⟨As',m',l,s,E,hq,e⟩=>by
   subst e
   obtain⟨a,b,d,rfl,h1,⟨b1,b2,d2,rfl,h2,h3⟩⟩:=star_append.1 s
   have h2:b1=m:=h2
   have h3:b2=emp:=h3
   subst h2;subst h3
   rw[un_emp]at d l
   exact⟨E++Bs,_,l,star_append.2 ⟨a,b1,d,rfl,h1,hm⟩,E,hq,rfl⟩⟩
theorem has_star{m:Mem}{Bs:List Asr}(h:star Bs m):Has m Bs:=⟨m,Mem.le_refl _,h⟩
theorem Has.sl{α:Type}{f:α→List Value}{size:Nat}{d:D}{xs:List α}{m:Mem}(h:Has m [slA size f d xs]):Sl m size f (.slice d.a xs.length d.cap) xs:=by
 obtain⟨a,l,b,c,dj,rfl,h1,_⟩:=h
 exact h1.1.le (Mem.le_trans (le_l _ _) l)
theorem own_nd(v:Value):(own v).Nodup:=by unfold own;split<;>simp
theorem pr_nd:∀{ys:List CS} {m:Mem},prA ys m→(ys.flatMap fun y=>own y.s).Nodup∧∀b,b∈(ys.flatMap fun y=>own y.s)→m b≠none
 |[],m,_=>⟨by simp,by simp⟩
 |y::r,m,h=>by
  obtain⟨a,b,d,rfl,h1,h2⟩:=h
  obtain⟨n1,n2⟩:=pr_nd (ys:=r) (m:=b) h2
  have ho:∀c,c∈own y.s→a c≠none:=fun c hc=>h1.1.own_some hc
  rw[List.flatMap_cons]
  refine⟨List.nodup_append.2 ⟨own_nd _,n1,fun c hc e he hce=>?_⟩,fun c hc=>?_⟩
  ·subst hce
   rcases d c with hd|hd
   ·exact ho c hc hd
   ·exact n2 c he hd
  ·rcases List.mem_append.1 hc with hc|hc
   ·cases ha:a c with
    |none=>exact absurd ha (ho c hc)
    |some k=>rw[un_l ha];simp
   ·cases hb:b c with
    |none=>exact absurd hb (n2 c hc)
    |some k=>rw[un_r d hb];simp
theorem body_whv{x:HX}{m:Mem}(h:star x.body m):WHV m x.hs:=by
 refine⟨body_r h,?_⟩
 obtain⟨a,r,d,rfl,h1,b,r2,d2,rfl,h2,c,r3,d3,rfl,h3,_⟩:=h
 obtain⟨b1,b2,d4,rfl,k1,k2⟩:=star2.1 h2
 obtain⟨p1,p2⟩:=pr_nd k2
 have o1:∀e,e∈own (.slice x.rd.a x.regs.length x.rd.cap)→a e≠none:=fun e he=>h1.1.own_some he
 have o2:∀e,e∈own (.slice x.cd.a x.xs.length x.cd.cap)→b1 e≠none:=fun e he=>k1.1.own_some he
 have o3:∀e,e∈own (.slice x.gd.a x.gray.length x.gd.cap)→c e≠none:=fun e he=>h3.1.own_some he
 have q2:∀e,e∈fpC (.slice x.cd.a x.xs.length x.cd.cap) x.xs→(b1.un b2) e≠none:=fun e he=>by
  rcases List.mem_append.1 he with he|he
  ·cases hb:b1 e with
   |none=>exact absurd hb (o2 e he)
   |some k=>rw[un_l hb];simp
  ·cases hb:b2 e with
   |none=>exact absurd hb (p2 e he)
   |some k=>rw[un_r d4 hb];simp
 show(own _++(fpC _ _++own _)).Nodup
 refine List.nodup_append.2 ⟨own_nd _,List.nodup_append.2 ⟨List.nodup_append.2 ⟨own_nd _,p1,fun e he f hf hef=>?_⟩,own_nd _,fun e he f hf hef=>?_⟩,fun e he f hf hef=>?_⟩
 ·subst hef
  rcases d4 e with h|h
  ·exact o2 e he h
  ·exact p2 e hf h
 ·subst hef
  rcases d2 e with h|h
  ·exact q2 e he h
  ·exact o3 e hf (un_none.1 h).1
 ·subst hef
  rcases d e with h|h
  ·exact o1 e he h
  ·rcases List.mem_append.1 hf with hf|hf
   ·exact q2 e hf (un_none.1 h).1
   ·exact o3 e hf (un_none.1 (un_none.1 h).2).1
theorem markHeap_d{x:HX}{k:Int}(h0:0≤k)(hb:endH k x.H≤4611686018427387904):FnA Tryz.prog 21 [x.v,.int .i64 k] x.body (fun v As=>v=.int .i64 (endH k x.H)∧As=[]):=
 ⟨fun m hm=>(markHeap_f h0 hb (body_whv hm)).mono fun v M' ⟨h1,_,_⟩=>⟨[],emp,fun _ _ h=>(by cases h),rfl,h1,rfl⟩⟩
end Go.Proofs.YtpleoapljeffiaaGreatDoor.E
namespace Go.Proofs.YtpleoapljeffiaaGreatDoor.E
open Go
noncomputable def e44:Env:=⟨Tryz.prog,[5,36],40,[]⟩
abbrev qW(a0:Nat)(a1:Nat)(a2:Nat)(a3:Int):I:=⟨some a0,none,.call a1 [.tmp a2,.const (.int .i64 a3)]⟩
abbrev qn(a0:Nat)(a1:Nat)(a2:Nat)(a3:Int)(a4:Int)(a5:Int)(a6:Int)(a7:Int)(a8:Int)(a9:Nat)(a10:Nat):I:=⟨some a0,none,.app a1 a2 [.int .i64 a3,.int .i64 a4,.int .i64 a5,.int .i64 a6,.int .i64 a7,.int .i64 a8] (.tmp a9) (.tmp a10)⟩
abbrev qx(a0:Nat)(a1:Nat)(a2:Nat)(a3:Int)(a4:Int)(a5:Int)(a6:Int)(a7:Int)(a8:Int)(a9:Int)(a10:Nat)(a11:Nat)(a12:Nat)(a13:Nat)(a14:Nat):I:=⟨some a0,none,.bslice true a1 a2 [.int .i64 a3,.int .i64 a4,.int .i64 a5,.int .i64 a6,.int .i64 a7,.int .i64 a8,.int .i64 a9,.slice none a10 a11] [(a12,a13,.tmp a14)]⟩
abbrev qy(a0:Nat)(a1:Nat)(a2:Nat)(a3:Int)(a4:Int)(a5:Int)(a6:Int)(a7:Int)(a8:Int)(a9:Int)(a10:Nat)(a11:Nat)(a12:Nat)(a13:Nat):I:=⟨some a0,none,.app a1 a2 [.int .i64 a3,.int .i64 a4,.int .i64 a5,.int .i64 a6,.int .i64 a7,.int .i64 a8,.int .i64 a9,.slice none a10 a11] (.tmp a12) (.tmp a13)⟩
abbrev qz(a0:Nat)(a1:Int)(a2:Int)(a3:Int)(a4:Int)(a5:Int)(a6:Int)(a7:Int)(a8:Nat)(a9:Nat):I:=⟨some a0,none,.build [.int .i64 a1,.int .i64 a2,.int .i64 a3,.int .i64 a4,.int .i64 a5,.int .i64 a6,.int .i64 a7,.slice none a8 a9] []⟩
abbrev j2(a0:Nat)(a1:Nat)(a2:Nat)(a3:Int)(a4:Int)(a5:Int)(a6:Int)(a7:Int)(a8:Int)(a9:Nat)(a10:Nat)(a11:Nat):I:=⟨some a0,none,.bslice true a1 a2 [.int .i64 a3,.int .i64 a4,.int .i64 a5,.int .i64 a6,.int .i64 a7,.int .i64 a8] [(a9,a10,.tmp a11)]⟩
abbrev jE(a0:Nat)(a1:Nat)(a2:Nat):I:=⟨some a0,none,.bslice false a1 a2 [] []⟩
noncomputable def c44:C:=
 .seq (.reg [qd 1 0,⟨some 2,none,.mov (.const (.pointer none))⟩]) (.seq (.reg [jE 6 0 3,z4 7 3 1,z5 8 1 7,jD 9 3 24 0 0 0 6 8,z4 10 3 1,z7 1 10 9]) (.seq (.reg [jE 11 0 1,z4 12 8 1,z5 13 1 12,qQ 14 1 8 0 11 13,z4 15 8 1,z7 1 15 14]) (.seq (.reg [z4 16 4 1,z5 17 1 16,z3 3 17]) (.seq (.reg [z3 18 3,zE 19 18,⟨some 20,none,.mkslice 8 80 [.int .i64 0,.int .i64 0,.int .i64 0,.int .i64 0,.int .i64 0,
 .int .i64 0,.int .i64 0,.slice none 0 0] (.const (.int .i64 0)) (.tmp 19)⟩,z4 21 4 1,z7 1 21 20]) (.seq (.seq (.reg [z3 22 3,zE 23 22,zC 24 0]) (.block 0 (.loop (.seq (.reg [zN 25 24 23]) (.seq (.cond (.tmp 25) .skip (.exit 0)) (.seq (.block 1 (.seq (.reg [z8 26 8 22 24,z9 27 8 26,zX 5 0 0 0 0 0 0 0 0 0,z7 8 5 27]) (.seq (.reg [jE 28 0 6,z4 29 7 5,z5 30 1 29,qn 31 6 48 0 0 0 0 0 0 28 30,z4 32
 7 5,z7 1 32 31]) (.reg [z4 33 4 1,z5 34 1 33,z9 35 8 5,qx 36 1 8 0 0 0 0 0 0 0 0 0 0 8 35,qy 37 8 80 0 0 0 0 0 0 0 0 0 34 36,z4 38 4 1,z7 1 38 37])))) (.reg [zG 39 24 1,z3 24 39]))))))) (.seq (.reg [z3 2 1]) .ret))))))
theorem t44:Tryz.f44.body.bind (trC e44)=some c44:=by kernel_rfl
theorem r44:Tryz.f44.results.toList.mapM (trR Tryz.prog)=some [.tmp 2]:=by kernel_rfl
theorem fn44{args:List Value}{M:Mem}{post:Value→Mem→Prop}(hl:args.length≤40)(h:VC e44 c44 (fnQ [.tmp 2] post) (initS args 40) M):Fn Tryz.prog 44 args M post:=
 Fn.of' (E:=e44) Tryz.func44 t44 rfl r44 mixed hl h
noncomputable def e130:Env:=⟨Tryz.prog,[30],34,[]⟩
noncomputable def c130:C:=
 .seq (.reg [z3 4 0,zM 5 150 4,z3 6 5,zJ 7 6 0,zU 8 6 7,zI 9 6 4 8,zF 10 6 1 9,zJ 11 6 1,zj 12 6 8 10 11,zI 13 6 5 12,zF 14 6 1 13,zY 15 6 14 0,zK 16 6 15]) (.cond (.tmp 16) (.seq (.reg [z3 17 0,z6 18 17,z4 19 4 18,z5 20 1 19,z3 21 1,z8 22 8 20 21,z4 23 5 22,zn 1 23 1]) (.reg [z3 24 0,z3 25 0,z6 26 25,z4 27 8 26,z5 28 1 27,z3 29 1,qV 30 1 1 0 0 1 29,qQ 31 1 8 0 28 30,z6 32 24,z4 33 8 32,z7 1 33
 31])) .skip)
theorem t130:Tryz.f130.body.bind (trC e130)=some c130:=by kernel_rfl
theorem r130:Tryz.f130.results.toList.mapM (trR Tryz.prog)=some []:=by kernel_rfl
theorem fn130{args:List Value}{M:Mem}{post:Value→Mem→Prop}(hl:args.length≤34)(h:VC e130 c130 (fnQ [] post) (initS args 34) M):Fn Tryz.prog 130 args M post:=
 Fn.of' (E:=e130) Tryz.func130 t130 rfl r130 mixed hl h
noncomputable def e127:Env:=⟨Tryz.prog,[3],25,[]⟩
noncomputable def c127:C:=
 .seq (.reg [zT 3 1,zD 4]) (.seq (.reg [z3 6 0,z9 7 3 3,zL 8 124 6 7,z3 5 8]) (.seq (.seq (.reg [z3 9 5,zc 10 9 0,z3 11 10,zQ 12 11 0,za 13 11 12,zO 14 11 4 13,zP 15 11 1 14,zQ 16 11 5,qB 17 11 8 15 16,zO 18 11 5 17,zP 19 11 1 18,zz 20 11 19 0,zR 21 11 20]) (.cond (.tmp 21) (.seq (.reg [zD 4]) .ret) .skip)) (.seq (.reg [z3 22 0,z3 23 5,zL 24 130 22 23]) (.seq (.reg [zZ 4]) .ret))))
theorem t127:Tryz.f127.body.bind (trC e127)=some c127:=by kernel_rfl
theorem r127:Tryz.f127.results.toList.mapM (trR Tryz.prog)=some [.tmp 4]:=by kernel_rfl
theorem fn127{args:List Value}{M:Mem}{post:Value→Mem→Prop}(hl:args.length≤25)(h:VC e127 c127 (fnQ [.tmp 4] post) (initS args 25) M):Fn Tryz.prog 127 args M post:=
 Fn.of' (E:=e127) Tryz.func127 t127 rfl r127 mixed hl h
noncomputable def e169:Env:=⟨Tryz.prog,[],24,[]⟩
noncomputable def c169:C:=
 .seq (.reg [z3 4 0,z3 5 0,z3 6 0,z3 7 1,z6 8 4,z4 9 5 8,z7 1 9 7,z6 10 5,z4 11 6 10,zn 1 11 0,z6 12 6,z4 13 7 12,zn 1 13 0]) (.seq (.reg [z3 14 1,zA 15 14 6]) (.cond (.tmp 15) (.reg [z3 16 0,z3 17 0,z6 18 17,z4 19 4 18,z5 20 1 19,zE 21 20,z6 22 16,z4 23 6 22,z7 1 23 21]) .skip))
theorem t169:Tryz.f169.body.bind (trC e169)=some c169:=by kernel_rfl
theorem r169:Tryz.f169.results.toList.mapM (trR Tryz.prog)=some []:=by kernel_rfl
theorem fn169{args:List Value}{M:Mem}{post:Value→Mem→Prop}(hl:args.length≤24)(h:VC e169 c169 (fnQ [] post) (initS args 24) M):Fn Tryz.prog 169 args M post:=
 Fn.of' (E:=e169) Tryz.func169 t169 rfl r169 mixed hl h
noncomputable def e170:Env:=⟨Tryz.prog,[],263,[(5,11),(13,9),(15,11),(24,9),(25,10),(26,9),(27,16),(36,12),(37,10),(38,21)]⟩
noncomputable def c170:C:=
 .seq (.reg [z3 6 0,z6 7 6,z4 8 4 7,z5 9 1 8,zE 10 9,z3 2 10]) (.seq (.reg [z3 11 0,z6 12 11,z4 13 5 12,z5 14 1 13]) (.block 0 (.seq (.reg [zA 16 14 1,z3 15 16]) (.cond (.tmp 15) (.seq (.seq (.reg [z3 17 0,z6 18 17,z4 19 6 18,z5 20 1 19,z3 21 2,zy 22 20 21]) (.cond (.tmp 22) (.seq (.reg [z3 23 0,qW 24 169 23 2]) .ret) .skip)) (.seq (.seq (.dreg 11 [z3 25 0,z6 26 25,z4 27 4 26,z5 28 1 27,z3
 29 0,z6 30 29,z4 31 6 30,z5 32 1 31,z8 33 8 28 32,z9 34 8 33,qH 35 148 34]) (.cond (.tmp 35) (.reg [z3 36 0,z3 37 0,z6 38 37,z4 39 6 38,z5 40 1 39,zL 41 130 36 40]) .skip)) (.reg [z3 42 0,z6 43 42,z4 44 6 43,z5 45 1 44,zG 46 45 1,z6 47 42,z4 48 6 47,z7 1 48 46]))) (.seq (.reg [zA 50 14 2,z3 49 50]) (.cond (.tmp 49) (.reg [z3 51 0,zM 52 172 51]) (.seq (.reg [zA 54 14 3,z3 53 54]) (.cond (.tmp
 53) (.seq (.seq (.reg [z3 55 0,z6 56 55,z4 57 6 56,z5 58 1 57,z3 59 2,zy 60 58 59]) (.cond (.tmp 60) (.seq (.reg [z3 61 0,qW 62 169 61 4]) .ret) .skip)) (.seq (.dreg 9 [z3 63 0,z6 64 63,z4 65 4 64,z5 66 1 65,z3 67 0,z6 68 67,z4 69 6 68,z5 70 1 69,z8 71 8 66 70,z3 3 71]) (.seq (.seq (.reg [z3 72 3,z6 73 72,z4 74 0 73,z5 75 1 74,zA 76 75 1,z3 77 76,zJ 78 77 3,zU 79 77 78,zI 80 77 5 79,zF 81 77
 1 80,zY 82 77 81 0,zK 83 77 82]) (.cond (.tmp 83) (.seq (.dreg 11 [z3 84 0,z6 85 84,z4 86 1 85,z5 87 1 86,z3 88 3,z6 89 88,z9 90 8 89,qH 91 144 90,qF 92 87 91,z6 93 84,z4 94 1 93,z7 1 94 92]) (.reg [z3 95 3,qz 96 0 0 0 0 0 0 0 0 0,z6 97 95,z7 8 97 96])) (.reg [z3 98 3,z6 99 98,z4 100 5 99,zn 1 100 0]))) (.reg [z3 101 0,z6 102 101,z4 103 6 102,z5 104 1 103,zG 105 104 1,z6 106 101,z4 107 6 106,
 z7 1 107 105])))) (.seq (.reg [zA 109 14 4,z3 108 109]) (.cond (.tmp 108) (.reg [z3 110 0,zM 111 173 110]) (.seq (.reg [zA 113 14 5,z3 112 113]) (.cond (.tmp 112) (.seq (.seq (.reg [z3 114 0,z6 115 114,z4 116 6 115,z5 117 1 116,z3 118 2,zy 119 117 118]) (.cond (.tmp 119) (.seq (.reg [z3 120 0,qW 121 169 120 6]) .ret) .skip)) (.seq (.dreg 9 [z3 122 0,z6 123 122,z4 124 4 123,z5 125 1 124,z3
 126 0,z6 127 126,z4 128 6 127,z5 129 1 128,z8 130 8 125 129,z3 4 130]) (.seq (.seq (.dreg 10 [z3 131 0,z6 132 131,z4 133 7 132,z5 134 1 133,z3 135 4,z6 136 135,z4 137 7 136,z5 138 1 137,zE 139 138,zN 140 134 139]) (.cond (.tmp 140) (.seq (.dreg 9 [z3 141 4,z6 142 141,z4 143 7 142,z5 144 1 143,z3 145 0,z6 146 145,z4 147 7 146,z5 148 1 147,z8 149 6 144 148,z3 5 149]) (.seq (.dreg 16 [z3 150 5,z3
 151 5,z3 152 0,z3 153 5,z6 154 153,z4 155 0 154,z9 156 3 155,q6 157 126 152 156,z3 158 0,z3 159 5,z6 160 159,z4 161 3 160,z9 162 3 161,q6 163 126 158 162,z6 164 150,z4 165 0 164,z7 3 165 157,z6 166 151,z4 167 3 166,z7 3 167 163]) (.seq (.reg [z3 168 0,z6 169 168,z4 170 7 169,z5 171 1 170,zG 172 171 1,z6 173 168,z4 174 7 173,z7 1 174 172]) .ret))) .skip)) (.seq (.reg [z3 175 0,z6 176 175,z4 177
 6 176,z5 178 1 177,zG 179 178 1,z6 180 175,z4 181 6 180,z7 1 181 179]) (.reg [z3 182 0,z6 183 182,z4 184 7 183,zn 1 184 0]))))) (.seq (.reg [zA 186 14 6,z3 185 186]) (.cond (.tmp 185) (.seq (.seq (.reg [z3 187 0,z6 188 187,z4 189 6 188,z5 190 1 189,zA 191 190 0]) (.cond (.tmp 191) (.seq (.reg [z3 192 0,qW 193 169 192 0]) (.seq (.reg [z3 194 0,z3 195 0,z6 196 195,z4 197 11 196,z5 198 1 197,zG
 199 198 1,⟨some 200,none,.min (.tmp 199) (.const (.int .i64 1000000000))⟩,z6 201 194,z4 202 11 201,z7 1 202 200]) .ret)) .skip)) (.seq (.reg [z3 203 0,z6 204 203,z4 205 6 204,z5 206 1 205,zi 207 206 1,z6 208 203,z4 209 6 208,z7 1 209 207]) (.seq (.seq (.dreg 12 [z3 210 0,z6 211 210,z4 212 4 211,z5 213 1 212,z3 214 0,z6 215 214,z4 216 6 215,z5 217 1 216,z8 218 8 213 217,z4 219 0 218,z5 220 1 219,
 zA 221 220 2]) (.cond (.tmp 221) (.dreg 10 [z3 222 0,z6 223 222,z4 224 4 223,z5 225 1 224,z3 226 0,z6 227 226,z4 228 6 227,z5 229 1 228,qz 230 0 0 0 0 0 0 0 0 0,z8 231 8 225 229,z7 8 231 230]) .skip)) (.seq (.dreg 21 [z3 232 0,z6 233 232,z4 234 6 233,z5 235 1 234,z3 236 2,zi 237 236 1,zy 238 235 237,z3 239 238,zJ 240 239 0,zU 241 239 240,zI 242 239 4 241,zF 243 239 1 242,zJ 244 239 0,zU 245 239
 244,zI 246 239 6 245,zF 247 239 1 246,zj 248 239 8 243 247,zI 249 239 0 248,zF 250 239 1 249,zY 251 239 250 0,zK 252 239 251]) (.cond (.tmp 252) (.reg [z3 253 0,z3 254 0,z6 255 254,z4 256 4 255,z5 257 1 256,z3 258 2,zi 259 258 1,qc 260 8 257 259,z6 261 253,z4 262 4 261,z7 1 262 260]) .skip))))) .skip))))))))))))))
theorem t170:Tryz.f170.body.bind (trC e170)=some c170:=by kernel_rfl
theorem r170:Tryz.f170.results.toList.mapM (trR Tryz.prog)=some []:=by kernel_rfl
theorem fn170{args:List Value}{M:Mem}{post:Value→Mem→Prop}(hl:args.length≤263)(h:VC e170 c170 (fnQ [] post) (initS args 263) M):Fn Tryz.prog 170 args M post:=
 Fn.of' (E:=e170) Tryz.func170 t170 rfl r170 mixed hl h
noncomputable def e172:Env:=⟨Tryz.prog,[3,6],90,[(1,11),(2,10),(3,11)]⟩
noncomputable def c172:C:=
 .seq (.seq (.reg [z3 7 0,z6 8 7,z4 9 8 8,z5 10 1 9,zE 11 10,qP 12 11 0]) (.cond (.tmp 12) (.seq (.dreg 11 [z3 13 0,z6 14 13,z4 15 4 14,z5 16 1 15,z3 17 0,z6 18 17,z4 19 8 18,z5 20 1 19,qa 21 1 20 0,z5 22 1 21,z8 23 8 16 22,z3 2 23]) (.seq (.seq (.dreg 10 [z3 24 0,z6 25 24,z4 26 7 25,z5 27 1 26,z3 28 2,z6 29 28,z4 30 7 29,z5 31 1 30,zE 32 31,zN 33 27 32]) (.cond (.tmp 33) (.seq (.dreg 11 [z3
 34 2,z6 35 34,z4 36 7 35,z5 37 1 36,z3 38 0,z6 39 38,z4 40 7 39,z5 41 1 40,z8 42 6 37 41,z9 43 6 42,zp 3 0 0 0 0 0 0,z7 6 3 43]) (.seq (.reg [z3 44 0,z4 45 0 3,z9 46 3 45,zL 47 127 44 46]) (.seq (.reg [z3 48 0,z4 49 3 3,z9 50 3 49,zL 51 127 48 50]) (.seq (.reg [z3 52 0,z6 53 52,z4 54 7 53,z5 55 1 54,zG 56 55 1,z6 57 52,z4 58 7 57,z7 1 58 56]) .ret)))) .skip)) (.seq (.reg [z3 59 2,z6 60 59,z4
 61 5 60,zn 1 61 2]) (.seq (.reg [z3 62 0,z3 63 0,z6 64 63,z4 65 8 64,z5 66 1 65,⟨some 67,none,.slc 1 (.tmp 66) (some (.const (.int .i64 1))) none⟩,z6 68 62,z4 69 8 68,z7 1 69 67]) (.seq (.reg [z3 70 0,z6 71 70,z4 72 7 71,zn 1 72 0]) .ret))))) .skip)) (.seq (.reg [zD 4]) (.seq (.seq (.reg [z3 73 0,z6 74 73,z4 75 3 74,z5 76 1 75,zE 77 76,zC 78 0]) (.block 0 (.loop (.seq (.reg [zN 79 78 77])
 (.seq (.cond (.tmp 79) .skip (.exit 0)) (.seq (.block 1 (.seq (.reg [z8 80 3 76 78,z9 81 3 80,zk 6 0 0 0,z7 3 6 81]) (.seq (.reg [z3 82 0,z9 83 3 6,zL 84 127 82 83]) (.cond (.tmp 84) (.reg [zZ 4]) .skip)))) (.reg [zG 85 78 1,z3 78 85]))))))) (.seq (.reg [z3 86 4,zV 87 86]) (.cond (.tmp 87) (.reg [z3 88 0,qW 89 169 88 3]) .skip))))
theorem t172:Tryz.f172.body.bind (trC e172)=some c172:=by kernel_rfl
theorem r172:Tryz.f172.results.toList.mapM (trR Tryz.prog)=some []:=by kernel_rfl
theorem fn172{args:List Value}{M:Mem}{post:Value→Mem→Prop}(hl:args.length≤90)(h:VC e172 c172 (fnQ [] post) (initS args 90) M):Fn Tryz.prog 172 args M post:=
 Fn.of' (E:=e172) Tryz.func172 t172 rfl r172 mixed hl h
noncomputable def e173:Env:=⟨Tryz.prog,[5,7],88,[(11,13)]⟩
noncomputable def c173:C:=
 .seq (.reg [z3 8 0,z6 9 8,z4 10 4 9,z5 11 1 10,zE 12 11,z3 2 12,zC 3 (-1)]) (.seq (.seq (.reg [z3 13 0,z6 14 13,z4 15 4 14,z5 16 1 15,zE 17 16,zC 18 0]) (.block 0 (.loop (.seq (.reg [zN 19 18 17]) (.seq (.cond (.tmp 19) .skip (.exit 0)) (.seq (.block 1 (.seq (.reg [z3 20 18,z8 21 8 16 18,z9 22 8 21,zX 5 0 0 0 0 0 0 0 0 0,z3 4 20,z7 8 5 22]) (.seq (.seq (.reg [z4 23 0 5,z5 24 1 23,zA 25 24
 0]) (.cond (.tmp 25) (.reg [z3 26 2,z3 27 4,⟨some 28,none,.min (.tmp 26) (.tmp 27)⟩,z3 2 28]) .skip)) (.seq (.reg [z4 29 0 5,z5 30 1 29,zA 31 30 1]) (.cond (.tmp 31) (.reg [z3 32 4,z3 3 32]) .skip))))) (.reg [zG 33 18 1,z3 18 33]))))))) (.seq (.seq (.reg [z3 34 2,z3 35 3,qX 36 34 35]) (.cond (.tmp 36) (.seq (.reg [z3 37 0,qW 38 169 37 5]) .ret) .skip)) (.seq (.dreg 13 [z3 39 0,z6 40 39,z4
 41 4 40,z5 42 1 41,z3 43 2,z3 44 0,z6 45 44,z4 46 4 45,z5 47 1 46,z3 48 3,z8 49 8 47 48,z9 50 8 49,z8 51 8 42 43,z7 8 51 50]) (.seq (.reg [z3 52 0,z6 53 52,z4 54 4 53,z5 55 1 54,z3 56 3,z3 57 2,⟨some 58,none,.build [.int .i64 0,.int .i64 0,.int .i64 0,.int .i64 0,.int .i64 0,.int .i64 0,.int .i64 0,.slice none 0 0] [(0,1,.const (.int .i64 2)),(6,1,.tmp 57)]⟩,z8 59 8 55 56,z7 8 59 58]) (.seq
 (.reg [z3 60 0,z6 61 60,z4 62 3 61,z5 63 1 62,zE 64 63,zC 65 0]) (.block 2 (.loop (.seq (.reg [zN 66 65 64]) (.seq (.cond (.tmp 66) .skip (.exit 2)) (.seq (.block 3 (.seq (.reg [z3 67 65,z8 68 3 63 65,z9 69 3 68,zk 7 0 0 0,z3 6 67,z7 3 7 69]) (.seq (.reg [z4 70 0 7,z5 71 1 70,zA 72 71 2,z3 73 72,zI 74 73 2 7,zF 75 73 1 74,zJ 76 73 3,qb 77 73 75 76,zK 78 73 77]) (.cond (.tmp 78) (.reg [z3 79
 0,z6 80 79,z4 81 3 80,z5 82 1 81,z3 83 6,z3 84 2,z8 85 3 82 83,z4 86 2 85,z7 1 86 84]) .skip)))) (.reg [zG 87 65 1,z3 65 87])))))))))))
theorem t173:Tryz.f173.body.bind (trC e173)=some c173:=by kernel_rfl
theorem r173:Tryz.f173.results.toList.mapM (trR Tryz.prog)=some []:=by kernel_rfl
theorem fn173{args:List Value}{M:Mem}{post:Value→Mem→Prop}(hl:args.length≤88)(h:VC e173 c173 (fnQ [] post) (initS args 88) M):Fn Tryz.prog 173 args M post:=
 Fn.of' (E:=e173) Tryz.func173 t173 rfl r173 mixed hl h
noncomputable def e158:Env:=⟨Tryz.prog,[],9,[]⟩
noncomputable def c158:C:=
 .seq (.reg [z3 2 0,z6 3 2,z4 4 5 3,z5 5 1 4,zA 6 5 0]) (.cond (.tmp 6) (.reg [z3 7 0,qW 8 169 7 1]) .skip)
theorem t158:Tryz.f158.body.bind (trC e158)=some c158:=by kernel_rfl
theorem r158:Tryz.f158.results.toList.mapM (trR Tryz.prog)=some []:=by kernel_rfl
theorem fn158{args:List Value}{M:Mem}{post:Value→Mem→Prop}(hl:args.length≤9)(h:VC e158 c158 (fnQ [] post) (initS args 9) M):Fn Tryz.prog 158 args M post:=
 Fn.of' (E:=e158) Tryz.func158 t158 rfl r158 mixed hl h
noncomputable def e159:Env:=⟨Tryz.prog,[],21,[]⟩
noncomputable def c159:C:=
 .seq (.reg [zC 4 0]) (.seq (.reg [zC 5 0]) (.seq (.block 0 (.loop (.seq (.seq (.reg [z3 6 5,z3 7 1,zN 8 6 7,z3 9 8,zJ 10 9 0,zU 11 9 10,zI 12 9 5 11,zF 13 9 1 12,qC 14 9 13 0,zK 15 9 14]) (.cond (.tmp 15) .skip (.exit 0))) (.block 1 (.seq (.reg [z3 16 0,zM 17 170 16]) (.reg [z3 18 5,zG 19 18 1,z3 5 19])))))) (.seq (.reg [z3 20 5,z3 4 20]) .ret)))
theorem t159:Tryz.f159.body.bind (trC e159)=some c159:=by kernel_rfl
theorem r159:Tryz.f159.results.toList.mapM (trR Tryz.prog)=some [.tmp 4]:=by kernel_rfl
theorem fn159{args:List Value}{M:Mem}{post:Value→Mem→Prop}(hl:args.length≤21)(h:VC e159 c159 (fnQ [.tmp 4] post) (initS args 21) M):Fn Tryz.prog 159 args M post:=
 Fn.of' (E:=e159) Tryz.func159 t159 rfl r159 mixed hl h
noncomputable def e171:Env:=⟨Tryz.prog,[],14,[]⟩
noncomputable def c171:C:=
 .seq (.reg [zC 2 0]) (.seq (.reg [zC 3 0]) (.seq (.block 0 (.loop (.seq (.seq (.reg [z3 4 0,z6 5 4,z4 6 5 5,z5 7 1 6,zo 8 7 0]) (.cond (.tmp 8) .skip (.exit 0))) (.block 1 (.seq (.reg [z3 9 0,zM 10 170 9]) (.reg [z3 11 3,zG 12 11 1,z3 3 12])))))) (.seq (.reg [z3 13 3,z3 2 13]) .ret)))
theorem t171:Tryz.f171.body.bind (trC e171)=some c171:=by kernel_rfl
theorem r171:Tryz.f171.results.toList.mapM (trR Tryz.prog)=some [.tmp 2]:=by kernel_rfl
theorem fn171{args:List Value}{M:Mem}{post:Value→Mem→Prop}(hl:args.length≤14)(h:VC e171 c171 (fnQ [.tmp 2] post) (initS args 14) M):Fn Tryz.prog 171 args M post:=
 Fn.of' (E:=e171) Tryz.func171 t171 rfl r171 mixed hl h
noncomputable def e160:Env:=⟨Tryz.prog,[],8,[]⟩
noncomputable def c160:C:=
 .seq (.reg [z3 2 0,zM 3 171 2]) (.seq (.reg [z3 4 0,zM 5 158 4]) (.reg [z3 6 0,zM 7 171 6]))
theorem t160:Tryz.f160.body.bind (trC e160)=some c160:=by kernel_rfl
theorem r160:Tryz.f160.results.toList.mapM (trR Tryz.prog)=some []:=by kernel_rfl
theorem fn160{args:List Value}{M:Mem}{post:Value→Mem→Prop}(hl:args.length≤8)(h:VC e160 c160 (fnQ [] post) (initS args 8) M):Fn Tryz.prog 160 args M post:=
 Fn.of' (E:=e160) Tryz.func160 t160 rfl r160 mixed hl h
noncomputable def e163:Env:=⟨Tryz.prog,[],45,[(3,17)]⟩
noncomputable def c163:C:=
 .seq (.reg [zC 2 0]) (.seq (.block 0 (.seq (.reg [z3 4 0,z6 5 4,z4 6 5 5,z5 7 1 6,zA 8 7 2,z3 9 8,zJ 10 9 0,zU 11 9 10,zI 12 9 8 11,zF 13 9 1 12,q5 14 9 13,qU 15 9 14 0,zK 16 9 15,z3 3 16]) (.cond (.tmp 3) (.seq (.reg [z3 17 0,z6 18 17,z4 19 8 18,z5 20 1 19,qa 21 1 20 0,z5 22 1 21,z3 2 22]) .ret) (.seq (.dreg 17 [z3 24 0,z6 25 24,z4 26 5 25,z5 27 1 26,zA 28 27 5,z3 29 28,zJ 30 29 0,zU 31 29
 30,zI 32 29 6 31,zF 33 29 1 32,zJ 34 29 0,zU 35 29 34,zI 36 29 4 35,zF 37 29 1 36,q5 38 29 37,qS 39 29 33 38,zK 40 29 39,z3 23 40]) (.cond (.tmp 23) (.seq (.reg [z3 41 0,z6 42 41,z4 43 6 42,z5 44 1 43,z3 2 44]) .ret) .skip))))) (.seq (.reg [zC 2 (-1)]) .ret))
theorem t163:Tryz.f163.body.bind (trC e163)=some c163:=by kernel_rfl
theorem r163:Tryz.f163.results.toList.mapM (trR Tryz.prog)=some [.tmp 2]:=by kernel_rfl
theorem fn163{args:List Value}{M:Mem}{post:Value→Mem→Prop}(hl:args.length≤45)(h:VC e163 c163 (fnQ [.tmp 2] post) (initS args 45) M):Fn Tryz.prog 163 args M post:=
 Fn.of' (E:=e163) Tryz.func163 t163 rfl r163 mixed hl h
noncomputable def e153:Env:=⟨Tryz.prog,[11,103],152,[]⟩
noncomputable def c153:C:=
 .seq (.reg [qd 1 0,zC 2 0,zC 3 0]) (.seq (.reg [z5 14 1 1,zM 15 156 14,ql 4 0 0,z7 1 4 15]) (.seq (.reg [⟨some 16,none,.mkfn 166 [] [.tmp 1,.tmp 4]⟩,z3 5 16]) (.seq (.seq (.reg [z5 17 1 1,z6 18 17,z4 19 4 18,z5 20 1 19,zE 21 20,zC 22 0]) (.block 0 (.loop (.seq (.reg [zN 23 22 21]) (.seq (.cond (.tmp 23) .skip (.exit 0)) (.seq (.block 1 (.seq (.reg [z3 24 22,z3 6 24]) (.seq (.reg [z5 25 1 1,
 z6 26 25,z4 27 4 26,z5 28 1 27,z3 29 6,z8 30 8 28 29,z3 7 30]) (.seq (.seq (.reg [z5 31 1 4,z3 32 6,z8 33 1 31 32,z5 34 1 33,zV 35 34]) (.cond (.tmp 35) (.exit 1) .skip)) (.seq (.reg [zx 8 0 0]) (.seq (.reg [z5 36 1 1,z6 37 36,z4 38 7 37,z5 39 1 38,z3 9 39]) (.seq (.seq (.reg [z3 40 7,z6 41 40,z4 42 7 41,z5 43 1 42,zE 44 43,zC 45 0]) (.block 2 (.loop (.seq (.reg [zN 46 45 44]) (.seq (.cond
 (.tmp 46) .skip (.exit 2)) (.seq (.block 3 (.seq (.reg [z3 47 45,z8 48 6 43 45,z9 49 6 48,zp 11 0 0 0 0 0 0,z3 10 47,z7 6 11 49]) (.seq (.seq (.reg [z3 50 7,z6 51 50,z4 52 2 51,z5 53 1 52,qe 54 53 1,zo 55 54 0,z3 56 55,zJ 57 56 5,zI 58 56 0 11,qk 59 56 3 58,⟨some 60,some (56,true),.callv (.tmp 57) [.tmp 59]⟩,zK 61 56 60,z3 62 61,zQ 63 62 7,za 64 62 63,zO 65 62 2 64,zP 66 62 1 65,⟨some 67,some
 (62,false),.bin .and (.tmp 66) (.const (.int .i64 2))⟩,zz 68 62 67 0,zQ 69 62 68,zJ 70 69 5,zI 71 69 3 11,qk 72 69 3 71,⟨some 73,some (69,true),.callv (.tmp 70) [.tmp 72]⟩,q8 74 62 69 73,zR 75 62 74]) (.cond (.tmp 75) (.seq (.reg [z3 76 2,zG 77 76 1,z3 2 77]) (.seq (.reg [z5 78 1 1,z6 79 78,z4 80 1 79,z5 81 1 80,zi 82 81 1,z6 83 78,z4 84 1 83,z7 1 84 82]) (.seq (.seq (.reg [z3 85 6,z5 86 1 1,
 zM 87 163 86,zy 88 85 87,z3 89 88,zJ 90 89 10,zJ 91 89 9,qS 92 89 90 91,zK 93 89 92]) (.cond (.tmp 93) (.reg [z5 94 1 1,z6 95 94,z4 96 7 95,z5 97 1 96,zi 98 97 1,z6 99 94,z4 100 7 99,z7 1 100 98]) .skip)) (.exit 3)))) .skip)) (.reg [z3 101 8,z9 102 6 11,j2 103 1 6 0 0 0 0 0 0 0 6 102,qn 104 6 48 0 0 0 0 0 0 101 103,z3 8 104])))) (.reg [zG 105 45 1,z3 45 105]))))))) (.reg [z3 106 7,z3 107 8,z6
 108 106,z4 109 7 108,z7 1 109 107])))))))) (.reg [zG 110 22 1,z3 22 110]))))))) (.seq (.seq (.reg [z5 111 1 1,z6 112 111,z4 113 4 112,z5 114 1 113,zE 115 114,zC 116 0]) (.block 4 (.loop (.seq (.reg [zN 117 116 115]) (.seq (.cond (.tmp 117) .skip (.exit 4)) (.seq (.block 5 (.seq (.reg [z3 118 116,z3 12 118]) (.seq (.reg [z5 119 1 1,z6 120 119,z4 121 4 120,z5 122 1 121,z3 123 12,z8 124 8 122
 123,z3 13 124]) (.seq (.reg [z3 125 13,z6 126 125,z4 127 0 126,z5 128 1 127,zA 129 128 1,z3 130 129,zF 131 130 1 4,zJ 132 130 12,zj 133 130 1 131 132,zF 134 130 1 133,qA 135 130 134,zK 136 130 135,z3 137 136,zJ 138 137 13,zU 139 137 138,zI 140 137 3 139,zF 141 137 1 140,zY 142 137 141 1,zK 143 137 142]) (.cond (.tmp 143) (.seq (.reg [z3 144 13,z6 145 144,z4 146 3 145,zn 1 146 2]) (.reg [z3 147
 3,zG 148 147 1,z3 3 148])) .skip))))) (.reg [zG 149 116 1,z3 116 149]))))))) (.seq (.reg [z3 150 2,z3 151 3,z3 2 150,z3 3 151]) .ret)))))
theorem t153:Tryz.f153.body.bind (trC e153)=some c153:=by kernel_rfl
theorem r153:Tryz.f153.results.toList.mapM (trR Tryz.prog)=some [.tmp 2,.tmp 3]:=by kernel_rfl
theorem fn153{args:List Value}{M:Mem}{post:Value→Mem→Prop}(hl:args.length≤152)(h:VC e153 c153 (fnQ [.tmp 2,.tmp 3] post) (initS args 152) M):Fn Tryz.prog 153 args M post:=
 Fn.of' (E:=e153) Tryz.func153 t153 rfl r153 mixed hl h
noncomputable def e166:Env:=⟨Tryz.prog,[3],18,[]⟩
noncomputable def c166:C:=
 .seq (.reg [zT 3 0,zD 4]) (.seq (.reg [z5 6 1 1,z9 7 3 3,zL 8 124 6 7,z3 5 8]) (.seq (.reg [z3 9 5,qm 10 9 0,z3 11 10,zF 12 11 1 2,zJ 13 11 5,zj 14 11 1 12 13,zF 15 11 1 14,qA 16 11 15,zK 17 11 16,z3 4 17]) .ret))
theorem t166:Tryz.f166.body.bind (trC e166)=some c166:=by kernel_rfl
theorem r166:Tryz.f166.results.toList.mapM (trR Tryz.prog)=some [.tmp 4]:=by kernel_rfl
theorem fn166{args:List Value}{M:Mem}{post:Value→Mem→Prop}(hl:args.length≤18)(h:VC e166 c166 (fnQ [.tmp 4] post) (initS args 18) M):Fn Tryz.prog 166 args M post:=
 Fn.of' (E:=e166) Tryz.func166 t166 rfl r166 mixed hl h
end Go.Proofs.YtpleoapljeffiaaGreatDoor.E
set_option maxHeartbeats 4000000
namespace Go.Proofs.YtpleoapljeffiaaGreatDoor.E
open Go
open Classical
def HX.enter(x:HX)(p:Int):HX:={x with phase:=p,hand:=if p=6 then x.xs.length else 0,sub:=0}
theorem enter_a{a:Nat}{x:HX}{p:Int}:FnA Tryz.prog 169 [ptr a,.int .i64 p] (hp a x) (fun v As=>As=hp a (x.enter p)):=by
 refine fnA_of (fun h=>fn169 (by simp) h) ?_
 repeat' (first|refine xx ?_|(refine xy ?_ ?_<;>intro hb<;>try(exfalso;omega))|fail)
 ·subst hb;exact fa_n (fun _ _=>rfl) (Pm.ent (fin _)) rfl
 ·refine fa_n (fun _ _=>rfl) (Pm.ent (fin (x.enter p) (e1:=?_))) rfl
  unfold HX.enter;rw[if_neg hb];rfl
def HX.begin(x:HX):HX:=if x.phase=0 then x.enter 1 else x
theorem begin_a{a:Nat}{x:HX}:FnA Tryz.prog 158 [ptr a] (hp a x) (fun v As=>As=hp a x.begin):=by
 refine fnA_of (fun h=>fn158 (by simp) h) ?_
 unfold HX.begin
 repeat' (first|refine xx ?_|(refine xy ?_ ?_<;>intro hb<;>try(exfalso;omega))|(refine k_L ?_;(refine g_c rfl enter_a (fun v As' hq=>?_);subst hq))|fail)
 ·rw[if_pos (show x.phase=0 from hb)];exact fa_n (fun _ _=>rfl) (Pm.ent (fin _)) rfl
 ·rw[if_neg (show ¬x.phase=0 from hb)];exact fa_n (fun _ _=>rfl) (Pm.ent (fin _)) rfl
def HX.shade(x:HX)(i:Nat)(y:CS)(e:D):HX:={x with xs:=x.xs.set i (y.s_color 1),gray:=x.gray++[(i:Int)],gd:=e}
theorem shade_a{a:Nat}{x:HX}{i:Nat}{y:CS}(hi:x.xs[i]?=some y)(hg:x.gray.length≤1000000):FnA Tryz.prog 130 [ptr a,.int .i64 i] (hp a x) (fun v As=>∃z:HX,As=hp a z∧if Marking x.H∧y.c.color=0 then ∃e,z=x.shade i y e else z=x):=by
 have hlt:=(List.getElem?_eq_some_iff.1 hi).1
 refine fnA_of (fun h=>fn130 (by simp) h) ?_
 repeat' (first|refine xx ?_|(refine xy ?_ ?_<;>intro hb<;>try(exfalso;omega))|(refine k_L ?_;first|(refine k_c ?_;refine a_cq rfl (fun m hm=>marking_q (ph_g (x:=x) hm)) ?_)|(refine g_ai rfl rfl (by omega) (fun e'=>?_)))|fail)
 ·refine fa_n (fun _ _=>rfl) (Pm.ent (fin (x.shade i y e'))) ⟨_,rfl,?_⟩
  rw[if_pos ⟨‹_›,‹_›⟩];exact⟨_,rfl⟩
 all_goals refine fa_n (fun _ _=>rfl) (Pm.ent (fin x)) ⟨_,rfl,?_⟩
 all_goals rw[if_neg (by simp_all)]
end Go.Proofs.YtpleoapljeffiaaGreatDoor.E
