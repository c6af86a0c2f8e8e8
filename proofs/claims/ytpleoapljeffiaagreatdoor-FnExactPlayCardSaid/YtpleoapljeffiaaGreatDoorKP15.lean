/- A part of the proof. Conditions: none. -/
import Derived.Test.YtpleoapljeffiaaGreatDoorKP14
set_option maxRecDepth 100000
set_option linter.unusedVariables false
namespace Go.Proofs.YtpleoapljeffiaaGreatDoor.E
open Go
noncomputable def e165:Env:=⟨Tryz.prog,[1,4],30,[]⟩
abbrev qN(a0:Nat)(a1:Int)(a2:Int)(a3:Int)(a4:Int)(a5:Int)(a6:Int)(a7:Int)(a8:Nat)(a9:Nat)(a10:Nat)(a11:Nat)(a12:Int)(a13:Nat)(a14:Nat)(a15:Nat)(a16:Nat)(a17:Nat)(a18:Nat)(a19:Nat)(a20:Nat)(a21:Nat):I:=⟨some a0,none,.build [.int .i64 a1,.int .i64 a2,.int .i64 a3,.int .i64 a4,.int .i64 a5,.int .i64 a6,.int .i64 a7,.slice none a8 a9] [(a10,a11,.const (.int .i64 a12)),(a13,a14,.tmp a15),(a16,a17,.tmp a18),(a19,a20,.tmp a21)]⟩
abbrev qY(a0:Nat)(a1:Nat)(a2:Nat)(a3:Nat):I:=⟨some a0,some (a1,false),.load false a2 (.tmp a3)⟩
abbrev qg(a0:Nat)(a1:Nat)(a2:Nat)(a3:Nat)(a4:Nat):I:=⟨some a0,some (a1,false),.call a2 [.tmp a3,.tmp a4]⟩
abbrev qh(a0:Nat)(a1:Nat)(a2:Nat)(a3:Int)(a4:Int)(a5:Int)(a6:Int)(a7:Int)(a8:Int)(a9:Nat)(a10:Nat):I:=⟨some a0,none,.mkslice a1 a2 [.int .i64 a3,.int .i64 a4,.int .i64 a5,.int .i64 a6,.int .i64 a7,.int .i64 a8] (.tmp a9) (.tmp a10)⟩
abbrev qq(a0:Nat)(a1:Int)(a2:Int)(a3:Int)(a4:Nat)(a5:Nat)(a6:Nat)(a7:Nat)(a8:Int)(a9:Int)(a10:Int)(a11:Nat)(a12:Nat)(a13:Int)(a14:Int)(a15:Int)(a16:Int)(a17:Int)(a18:Int):I:=⟨some a0,none,.alloc true [.int .i64 a1,.int .i64 a2,.int .i64 a3,.slice none a4 a5,.slice none a6 a7,.int .i64 a8,.int .i64 a9,.int .i64 a10,.slice none a11 a12,.int .i64 a13,.int .i64 a14,.int .i64 a15,.int .i64 a16,.int .i64 a17,.int .i64 a18]⟩
noncomputable def c165:C:=
 .seq (.reg [zO 1 0,zA 2 0]) (.seq (.seq (.reg [z4 5 1 1,z5 6 1 5,zQ 7 6]) (.cond (.tmp 7) (.seq (.reg [z4 8 0 1,z5 9 1 8,z6 10 9,z4 11 4 10,z5 12 1 11,zE 13 12,zA 14 0]) (.block 0 (.loop (.seq (.reg [zK 15 14 13]) (.seq (.cond (.tmp 15) .skip (.exit 0)) (.seq (.block 1 (.seq (.reg [z3 16 14,z8 17 8 12 14,z9 18 8 17,zc 4 0 0 0 0 0 0 0 0 0,z3 3 16,z7 8 4 18]) (.seq (.reg [z4 19 0 4,z5 20 1 19,
 zC 21 20 0]) (.cond (.tmp 21) (.seq (.reg [z3 22 3,z3 2 22]) .ret) .skip)))) (.reg [zD 23 14 1,z3 14 23]))))))) .skip)) (.seq (.reg [z4 24 0 1,z5 25 1 24,z6 26 25,z4 27 4 26,z5 28 1 27,zE 29 28,z3 2 29]) .ret))
theorem t165:Tryz.f165.body.bind (trC e165)=some c165:=by kernel_rfl
theorem r165:Tryz.f165.results.toList.mapM (trR Tryz.prog)=some [.tmp 2]:=by kernel_rfl
theorem fn165{args:List Value}{M:Mem}{post:Value→Mem→Prop}(hl:args.length≤30)(h:VC e165 c165 (fnQ [.tmp 2] post) (initS args 30) M):Fn Tryz.prog 165 args M post:=
 Fn.of' (E:=e165) Tryz.func165 t165 rfl r165 mixed hl h
noncomputable def e161:Env:=⟨Tryz.prog,[2],61,[(2,0),(3,13),(4,11),(6,13)]⟩
noncomputable def c161:C:=
 .seq (.reg [zO 2 0,zF 4]) (.seq (.seq (.reg [z4 5 1 2,z5 6 1 5]) (.cond (.tmp 6) (.seq (.hreg [2] [z4 7 0 2,z5 8 1 7,z4 9 0 2,z5 10 1 9,z3 13 1,z4 15 0 2,z5 16 1 15,z6 17 16,z4 18 0 17,z5 19 1 18] (.alt (zI 11 157 10) (.alt (zG 12 155 8 11) (.alt (zp 14 12 13) (.alt (qV 20 14 19) (.alf (z3 4 20) (.done) (.none)) (.none)) (.none)) (.none)) (.none))) .ret) .skip)) (.seq (.seq (.dreg 13 [z4 21 0
 2,z5 22 1 21,z6 23 22,z4 24 1 23,z5 25 1 24,z3 26 1,zp 27 25 26,z4 28 0 2,z5 29 1 28,z6 30 29,z4 31 0 30,z5 32 1 31,⟨some 33,none,.bin .gtr (.tmp 27) (.tmp 32)⟩]) (.cond (.tmp 33) (.seq (.dreg 11 [z4 34 0 2,z5 35 1 34,z4 36 0 2,z5 37 1 36,z6 38 37,z4 39 12 38,z5 40 1 39,zD 41 40 1,⟨some 42,none,.min (.tmp 41) (.const (.int .i64 1000000000))⟩,z6 43 35,z4 44 12 43,z7 1 44 42]) (.reg [z4 45 0 2,z5
 46 1 45,zI 47 160 46])) .skip)) (.seq (.dreg 13 [z4 48 0 2,z5 49 1 48,z6 50 49,z4 51 1 50,z5 52 1 51,z3 53 1,zp 54 52 53,z4 55 0 2,z5 56 1 55,z6 57 56,z4 58 0 57,z5 59 1 58,qV 60 54 59,z3 4 60]) .ret)))
theorem t161:Tryz.f161.body.bind (trC e161)=some c161:=by kernel_rfl
theorem r161:Tryz.f161.results.toList.mapM (trR Tryz.prog)=some [.tmp 4]:=by kernel_rfl
theorem fn161{args:List Value}{M:Mem}{post:Value→Mem→Prop}(hl:args.length≤61)(h:VC e161 c161 (fnQ [.tmp 4] post) (initS args 61) M):Fn Tryz.prog 161 args M post:=
 Fn.of' (E:=e161) Tryz.func161 t161 rfl r161 mixed hl h
noncomputable def e162:Env:=⟨Tryz.prog,[2],50,[(2,19),(4,9)]⟩
noncomputable def c162:C:=
 .seq (.reg [zO 2 0]) (.seq (.seq (.reg [z4 4 1 2,z5 5 1 4,z3 6 5,zV 7 6 1,zy 8 6 7 0,zW 9 6 8,z3 10 9,zU 11 10 0 2,zR 12 10 1 11,q4 13 10 12,zU 14 10 9 13,zR 15 10 1 14,zy 16 10 15 0,zW 17 10 16]) (.cond (.tmp 17) .ret .skip)) (.seq (.seq (.dreg 19 [z4 18 0 2,z5 19 1 18,z6 20 19,z4 21 5 20,z5 22 1 21,zC 23 22 0,z3 24 23,zM 25 24 0 2,zJ 26 24 1 25,zY 27 24 26,zM 28 24 1 27,zJ 29 24 1 28,zM 30
 24 0 2,zJ 31 24 1 30,zY 32 24 31,zM 33 24 10 32,zJ 34 24 1 33,⟨some 35,some (24,true),.bin .gtr (.tmp 29) (.tmp 34)⟩,zP 36 24 35]) (.cond (.tmp 36) (.reg [z4 37 0 2,z5 38 1 37,zI 39 158 38]) .skip)) (.dreg 9 [z4 40 0 2,z5 41 1 40,z4 42 0 2,z5 43 1 42,z6 44 43,z4 45 9 44,z5 46 1 45,z3 47 1,⟨some 48,none,.bin .mul (.tmp 46) (.tmp 47)⟩,zG 49 159 41 48])))
theorem t162:Tryz.f162.body.bind (trC e162)=some c162:=by kernel_rfl
theorem r162:Tryz.f162.results.toList.mapM (trR Tryz.prog)=some []:=by kernel_rfl
theorem fn162{args:List Value}{M:Mem}{post:Value→Mem→Prop}(hl:args.length≤50)(h:VC e162 c162 (fnQ [] post) (initS args 50) M):Fn Tryz.prog 162 args M post:=
 Fn.of' (E:=e162) Tryz.func162 t162 rfl r162 mixed hl h
noncomputable def e129:Env:=⟨Tryz.prog,[3],65,[(3,15),(6,15)]⟩
noncomputable def c129:C:=
 .seq (.reg [zO 3 0]) (.seq (.reg [z4 7 0 3,z5 8 1 7,z6 9 8,z4 10 4 9,z5 11 1 10,z3 12 1,z8 13 8 11 12,z3 6 13]) (.seq (.seq (.reg [z3 14 2,z3 15 6,z6 16 15,z4 17 7 16,z5 18 1 17,zE 19 18,zK 20 14 19]) (.cond (.tmp 20) (.seq (.dreg 15 [z4 21 0 3,z5 22 1 21,z6 23 22,z4 24 1 23,z5 25 1 24,z3 26 6,z6 27 26,z4 28 7 27,z5 29 1 28,zE 30 29,z3 31 2,qQ 32 30 31,qQ 33 25 32,z6 34 22,z4 35 1 34,z7 1 35
 33]) (.reg [z3 36 6,z3 37 6,z6 38 37,z4 39 7 38,z5 40 1 39,z3 41 2,qS 42 6 40 41,z6 43 36,z4 44 7 43,z7 1 44 42])) .skip)) (.seq (.reg [z3 45 1,z4 46 0 3,z5 47 1 46,zI 48 163 47,zt 49 45 48]) (.cond (.tmp 49) (.dreg 15 [z4 50 0 3,z5 51 1 50,z4 52 0 3,z5 53 1 52,z6 54 53,z4 55 7 54,z5 56 1 55,z3 57 6,z6 58 57,z4 59 7 58,z5 60 1 59,zE 61 60,⟨some 62,none,.min (.tmp 56) (.tmp 61)⟩,z6 63 51,z4 64
 7 63,z7 1 64 62]) .skip))))
theorem t129:Tryz.f129.body.bind (trC e129)=some c129:=by kernel_rfl
theorem r129:Tryz.f129.results.toList.mapM (trR Tryz.prog)=some []:=by kernel_rfl
theorem fn129{args:List Value}{M:Mem}{post:Value→Mem→Prop}(hl:args.length≤65)(h:VC e129 c129 (fnQ [] post) (initS args 65) M):Fn Tryz.prog 129 args M post:=
 Fn.of' (E:=e129) Tryz.func129 t129 rfl r129 mixed hl h
noncomputable def e83:Env:=⟨Tryz.prog,[2],5,[]⟩
noncomputable def c83:C:=
 .seq (.reg [zj 2 0 0]) (.seq (.reg [z3 3 0,qM 4 0 0 0 1 3,z7 2 2 4]) .ret)
theorem t83:Tryz.f83.body.bind (trC e83)=some c83:=by kernel_rfl
theorem r83:Tryz.f83.results.toList.mapM (trR Tryz.prog)=some [.cell 2 false 2]:=by kernel_rfl
theorem fn83{args:List Value}{M:Mem}{post:Value→Mem→Prop}(hl:args.length≤5)(h:VC e83 c83 (fnQ [.cell 2 false 2] post) (initS args 5) M):Fn Tryz.prog 83 args M post:=
 Fn.of' (E:=e83) Tryz.func83 t83 rfl r83 mixed hl h
noncomputable def e131:Env:=⟨Tryz.prog,[2],5,[]⟩
noncomputable def c131:C:=
 .seq (.reg [zj 2 0 0]) (.seq (.reg [z3 3 0,qM 4 0 0 1 1 3,z7 2 2 4]) .ret)
theorem t131:Tryz.f131.body.bind (trC e131)=some c131:=by kernel_rfl
theorem r131:Tryz.f131.results.toList.mapM (trR Tryz.prog)=some [.cell 2 false 2]:=by kernel_rfl
theorem fn131{args:List Value}{M:Mem}{post:Value→Mem→Prop}(hl:args.length≤5)(h:VC e131 c131 (fnQ [.cell 2 false 2] post) (initS args 5) M):Fn Tryz.prog 131 args M post:=
 Fn.of' (E:=e131) Tryz.func131 t131 rfl r131 mixed hl h
end Go.Proofs.YtpleoapljeffiaaGreatDoor.E
set_option linter.unusedSimpArgs false
set_option maxHeartbeats 8000000
namespace Go.Proofs.YtpleoapljeffiaaGreatDoor.E
open Go
open Classical
def eV(a:Nat):Value:=.agg #[ptr a,.bool false]
theorem codeE_q{m:Mem}{n:Int}:Qt Tryz.prog 83 [.int .i64 n] m (an n 0):=by
 refine qt_of (fnA_of (fun h=>fn83 (by simp) h) ?_)
 repeat' (first
  |(refine k_L ?_;first|refine a_p rfl ?_|(refine k_st ?_;refine g_sw rfl rfl rfl rfl (Nat.le_of_ble_eq_true rfl) ?_)|(refine k_al ?_;refine a_al ?_))
  |refine a_n ?_
  |(refine k_V ?_;first|refine v_seq ?_|refine v_reg ?_|refine v_ret ?_)
  |refine sk_zero ?_
  |refine sk_succ ?_
  |refine wk_nil ?_
  |refine wk_cons ?_)
 exact fa_q (by simp) (fun _ _=>rfl) rfl
theorem numE_q{m:Mem}{n:Int}:Qt Tryz.prog 131 [.int .i64 n] m (an 0 n):=by
 refine qt_of (fnA_of (fun h=>fn131 (by simp) h) ?_)
 repeat' (first
  |(refine k_L ?_;first|refine a_p rfl ?_|(refine k_st ?_;refine g_sw rfl rfl rfl rfl (Nat.le_of_ble_eq_true rfl) ?_)|(refine k_al ?_;refine a_al ?_))
  |refine a_n ?_
  |(refine k_V ?_;first|refine v_seq ?_|refine v_reg ?_|refine v_ret ?_)
  |refine sk_zero ?_
  |refine sk_succ ?_
  |refine wk_nil ?_
  |refine wk_cons ?_)
 exact fa_q (by simp) (fun _ _=>rfl) rfl
theorem fits_a{a:Nat}{x:HX}{u:Int}(h:Sound x.H)(hu:0≤u∧u≤201):FnA Tryz.prog 161 [eV a,.int .i64 u] (hp a x) (fun v As=>∃z:HX,v=.bool (decide ((x.H.fitsH u).used+u≤(x.H.fitsH u).room))∧As=hp a z∧z.H=x.H.fitsH u):=by
 refine fnA_of (fun h=>fn161 (by simp) h) ?_
 have e1:x.hdr.used=x.H.used:=rfl
 have e2:x.hdr.room=x.H.room:=rfl
 have e3:x.hdr.forced=x.H.forced:=rfl
 have h1:=h.r1.room
 have h2:=h.r3.2
 have h3:=h.r1.forced
 have h4:0≤x.H.used:=by have:=h.r3.1;have:=unitsN_nn x.H.cells;omega
 by_cases hf:x.H.used+u≤x.H.room
 ·have e:x.H.fitsH u=x.H:=by unfold Heap.fitsH;rw[if_pos hf]
  rw[e]
  repeat' (first
   |(refine k_L ?_;first|(refine k_ad ?_;refine g_ad rfl rfl ?_)|refine a_p rfl ?_|(refine k_l ?_;refine g_l rfl ?_)|(refine k_bx ?_;refine a_bx rfl rfl ?_))
   |refine a_n ?_
   |(refine k_V ?_;first|refine v_seq ?_|refine v_reg ?_|refine v_dreg ?_|refine v_ret ?_|refine v_skip ?_|refine v_cf rfl ?_|(refine v_cd rfl (fun hb=>?_) (fun hb=>?_)<;>try(exfalso;omega))))
  exact fa_r (fun _ _=>rfl) (Pm.ent pmt) ⟨x,by simp[hf,e1,e2],rfl,rfl⟩
 ·have fr:∀n:Int,(x.frc n).H={x.H with forced:=n}:=fun n=>rfl
  have end_:∀(z:HX) (F:Heap),z.H=F→(z.hdr.used+u≤z.hdr.room↔F.used+u≤F.room):=fun z F e=>by rw[←e];exact Iff.rfl
  have e:x.H.fitsH u=(x.frc (if(1000000000:Int)<x.H.forced+1 then 1000000000 else x.H.forced+1)).H.roundH:=by
   unfold Heap.fitsH;rw[if_neg hf,fr]
   congr 2
   split<;>split<;>omega
  have eb:(if(1000000000:Int)<x.H.forced+1 then(1000000000:Int)else x.H.forced+1)≤1000000000∧0≤(if(1000000000:Int)<x.H.forced+1 then(1000000000:Int)else x.H.forced+1):=by split<;>omega
  rw[e]
  have sS:Sound (x.frc (if(1000000000:Int)<x.H.forced+1 then 1000000000 else x.H.forced+1)).H:=by rw[fr];exact forced_sound h ⟨eb.2,eb.1⟩
  repeat' (first
   |(refine k_L ?_;first|(refine k_ad ?_;refine g_ad rfl rfl ?_)|refine a_p rfl ?_|(refine k_l ?_;refine g_l rfl ?_)|(refine k_st ?_;refine g_st rfl rfl rfl rfl ?_)|(refine k_bx ?_;refine a_bx rfl rfl ?_)|(refine g_c rfl (round_a (x:=x.frc (if(1000000000:Int)<x.H.forced+1 then 1000000000 else x.H.forced+1)) sS) (fun v As' hq=>?_);obtain⟨z,rfl,hz⟩:=hq;have zb:=used_b (z:=z) (by rw[hz];exact(roundH_ok sS).1)))
   |refine a_n ?_
   |(refine k_V ?_;first|refine v_seq ?_|refine v_reg ?_|refine v_dreg ?_|refine v_ret ?_|refine v_skip ?_|refine v_cf rfl ?_|(refine v_cd rfl (fun hb=>?_) (fun hb=>?_)<;>try(exfalso;omega))))
  all_goals exact fa_r (fun _ _=>rfl) (Pm.ent pmt) ⟨z,by congr 1;rw[Bool.eq_iff_iff];simp only[decide_eq_true_eq];exact end_ z _ hz,rfl,hz⟩
theorem step_idle{H:Heap}(h:Sound H)(hp:H.phase=0)(k:Nat):iterU (min k (outN H)) H=H:=by
 rw[(out0 h).2 hp,Nat.min_zero];rfl
theorem step_busy{H:Heap}(hp:H.phase≠0){n:Int}(hn:n≠0):iterU (min n.toNat (outN H)) H=H.stepH n:=by
 unfold Heap.stepH stepN
 rw[if_neg hn,begin_on hp,if_neg hn]
theorem pace_a{a:Nat}{x:HX}{u:Int}(h:Sound x.H)(hu:0≤u∧u≤201):FnA Tryz.prog 162 [eV a,.int .i64 u] (hp a x) (fun v As=>∃z:HX,As=hp a z∧z.H=x.H.paceH u):=by
 refine fnA_of (fun h=>fn162 (by simp) h) ?_
 have e1:x.hdr.used=x.H.used:=rfl
 have e2:x.hdr.per=x.H.per:=rfl
 have e3:x.hdr.start=x.H.start:=rfl
 have e4:x.hdr.phase=x.H.phase:=rfl
 have h1:=h.r1.per
 have hm:0≤x.H.per*u∧x.H.per*u≤64*201:=⟨Int.mul_nonneg h1.1 hu.1,Int.mul_le_mul h1.2 hu.2 hu.1 (by omega)⟩
 unfold Heap.paceH
 by_cases c1:x.H.per=0∨u=0
 ·rw[if_pos c1]
  repeat' (first
   |(refine k_L ?_;first|refine a_p rfl ?_|(refine k_g ?_;first|refine a_gy rfl rfl ?_|refine a_gn rfl rfl ?_|(refine a_gd rfl (fun hb=>?_) (fun hb=>?_)<;>try(exfalso;omega)))|(refine k_l ?_;refine g_l rfl ?_)|(refine k_bx ?_;refine a_bx rfl rfl ?_))
   |refine a_n ?_
   |(refine k_V ?_;first|refine v_seq ?_|refine v_reg ?_|refine v_ret ?_|refine v_ct rfl ?_|(refine v_cd rfl (fun hb=>?_) (fun hb=>?_)<;>try(exfalso;omega)))
   |refine s_r ?_)
  all_goals first
   |exact fa_n (fun _ _=>rfl) (Pm.ent pmt) ⟨x,rfl,rfl⟩
   |exact fa_r (fun _ _=>rfl) (Pm.ent pmt) ⟨x,rfl,rfl⟩
   |(exfalso;omega)
 ·rw[if_neg c1]
  have c2:¬x.H.per=0:=fun e=>c1 (.inl e)
  have c3:¬u=0:=fun e=>c1 (.inr e)
  have hn:x.H.per*u≠0:=fun e=>by
   rcases Int.mul_eq_zero.1 e with e|e
   ·exact c2 e
   ·exact c3 e
  by_cases c4:x.H.phase=0
  ·by_cases c5:x.H.used≤x.H.start
   ·rw[if_pos ⟨c4,c5⟩]
    repeat' (first
     |(refine k_L ?_;first|(refine k_ml ?_;refine g_ml rfl rfl ?_)|refine a_p rfl ?_|(refine k_g ?_;first|refine a_gy rfl rfl ?_|(refine a_gd rfl (fun hb=>?_) (fun hb=>?_)<;>try(exfalso;omega)))|(refine k_l ?_;refine g_l rfl ?_)|(refine k_bx ?_;refine a_bx rfl rfl ?_)|(refine g_c rfl (step_a (x:=x) (n:=x.H.per*u) h (by omega)) (fun v As' hq=>?_);obtain⟨z,rfl,rfl,hz⟩:=hq))
     |refine a_n ?_
     |(refine k_V ?_;first|refine v_seq ?_|refine v_reg ?_|refine v_dreg ?_|refine v_skip ?_|(refine v_cd rfl (fun hb=>?_) (fun hb=>?_)<;>try(exfalso;omega))))
    all_goals first
     |exact fa_n (fun _ _=>rfl) (Pm.ent pmt) ⟨z,rfl,by rw[hz,step_idle h c4]⟩
     |(exfalso;omega)
   ·rw[if_neg (fun e=>c5 e.2)]
    have pb:x.begin.H=x.H.enterH 1:=by rw[begin_H];unfold Heap.beginH;rw[if_pos c4]
    have hsb:Sound x.begin.H:=by rw[pb];exact begin_sound h c4
    have pp:x.begin.hdr.per=x.H.per:=by show x.begin.H.per=_;rw[pb];rfl
    have hm2:0≤x.begin.hdr.per*u∧x.begin.hdr.per*u≤64*201:=by rw[pp];exact hm
    repeat' (first
     |(refine k_L ?_;first|(refine k_ml ?_;refine g_ml rfl rfl ?_)|refine a_p rfl ?_|(refine k_g ?_;first|refine a_gy rfl rfl ?_|(refine a_gd rfl (fun hb=>?_) (fun hb=>?_)<;>try(exfalso;omega)))|(refine k_l ?_;refine g_l rfl ?_)|(refine k_bx ?_;refine a_bx rfl rfl ?_)|(refine g_c rfl (begin_a (x:=x)) (fun v As' hq=>?_);subst hq))
     |refine a_n ?_
     |(refine k_V ?_;first|refine v_seq ?_|refine v_reg ?_|refine v_dreg ?_|refine v_skip ?_|(refine v_cd rfl (fun hb=>?_) (fun hb=>?_)<;>try(exfalso;omega))))
    refine g_c rfl (step_a (x:=x.begin) (n:=x.begin.hdr.per*u) hsb (by rw[pp];omega)) (fun v As' hq=>?_)
    obtain⟨z,rfl,rfl,hz⟩:=hq
    repeat' (first
     |(refine k_L ?_;first|(refine k_ad ?_;refine g_ad rfl rfl ?_)|(refine k_su ?_;refine g_su rfl rfl ?_)|(refine k_ml ?_;refine g_ml rfl rfl ?_)|refine a_p rfl ?_|(refine k_g ?_;first|refine a_gy rfl rfl ?_|refine a_gn rfl rfl ?_|refine a_gu rfl ?_|(refine a_gd rfl (fun hb=>?_) (fun hb=>?_)<;>try(exfalso;omega))|(refine a_ge rfl (fun hb=>?_) (fun hb=>?_)<;>try(exfalso;omega))|(refine a_gne rfl (fun hb=>?_) (fun hb=>?_)<;>try(exfalso;omega))|(refine a_gnd rfl (fun hb=>?_) (fun hb=>?_)<;>try(exfalso;omega)))|(refine k_l ?_;refine g_l rfl ?_)|(refine k_i ?_;refine g_i rfl rfl ?_)|(refine k_ls ?_;refine g_ls rfl ?_)|(refine k_st ?_;first|refine g_st rfl rfl rfl rfl ?_|refine g_sw rfl rfl rfl rfl (Nat.le_of_ble_eq_true rfl) ?_)|(refine k_al ?_;refine a_al ?_)|(refine k_bx ?_;refine a_bx rfl rfl ?_)|(refine k_bl ?_;refine a_bl rfl ?_)|(refine k_p ?_;first|(refine a_pd rfl (fun hb=>?_) (fun hb=>?_)<;>try(exfalso;omega))|(refine a_pe rfl (fun hb=>?_) (fun hb=>?_)<;>try(exfalso;omega))|(refine a_pne rfl (fun hb=>?_) (fun hb=>?_)<;>try(exfalso;omega))|(refine a_pnd rfl (fun hb=>?_) (fun hb=>?_)<;>try(exfalso;omega))))
     |refine a_n ?_
     |(refine k_V ?_;first|refine v_rv ?_|refine v_seq ?_|refine v_reg ?_|refine v_dreg ?_|refine v_zreg ?_|refine v_bs ?_|refine v_br ?_|refine v_bd ?_|refine v_bc ?_|refine v_bk ?_|refine v_bb ?_|refine v_ret ?_|refine v_exit ?_|refine v_skip ?_|refine v_ct rfl ?_|refine v_cf rfl ?_|(refine v_cd rfl (fun hb=>?_) (fun hb=>?_)<;>try(exfalso;omega))|(refine v_ce rfl (fun hb=>?_) (fun hb=>?_)<;>try(exfalso;omega))|(refine v_cn rfl (fun hb=>?_) (fun hb=>?_)<;>try(exfalso;omega))|(refine v_cnd rfl (fun hb=>?_) (fun hb=>?_)<;>try(exfalso;omega)))
     |refine s_n ?_
     |refine s_r ?_
     |refine s_e ?_
     |refine b_n ?_
     |refine b_r ?_
     |refine b_e ?_
     |refine b_o rfl ?_
     |refine r_rt ?_
     |refine r_bk rfl ?_
     |refine r_ex rfl rfl ?_
     |refine sk_zero ?_
     |refine sk_succ ?_
     |refine wk_nil ?_
     |refine wk_cons ?_)
    exact fa_n (fun _ _=>rfl) (Pm.ent pmt) ⟨z,rfl,by rw[hz,pp,step_busy (by rw[pb];show(1:Int)≠0;omega) hn,pb];exact step_begun c4 hn⟩
  ·rw[if_neg (fun e=>c4 e.1)]
   repeat' (first
    |(refine k_L ?_;first|(refine k_ml ?_;refine g_ml rfl rfl ?_)|refine a_p rfl ?_|(refine k_g ?_;first|refine a_gy rfl rfl ?_|refine a_gn rfl rfl ?_|(refine a_gd rfl (fun hb=>?_) (fun hb=>?_)<;>try(exfalso;omega)))|(refine k_l ?_;refine g_l rfl ?_)|(refine k_bx ?_;refine a_bx rfl rfl ?_)|(refine g_c rfl (step_a (x:=x) (n:=x.H.per*u) h (by omega)) (fun v As' hq=>?_);obtain⟨z,rfl,rfl,hz⟩:=hq))
    |refine a_n ?_
    |(refine k_V ?_;first|refine v_seq ?_|refine v_reg ?_|refine v_dreg ?_|refine v_skip ?_|refine v_cf rfl ?_|(refine v_cd rfl (fun hb=>?_) (fun hb=>?_)<;>try(exfalso;omega))))
   all_goals exact fa_n (fun _ _=>rfl) (Pm.ent pmt) ⟨z,rfl,by rw[hz];exact step_busy c4 hn⟩
theorem b_p{P:Program}{r:List I}{d:Option Nat}{post:St→List Asr→Prop}{S:St}{As:List Asr}{k:K}{sv:SV}(h:pe S k=some sv)(hp:LA P r post (put S d sv) As):LA P (⟨d,none,k⟩::r) post S As:=a_p h hp
theorem b_w{P:Program}{r:List I}{d:Option Nat}{post:St→List Asr→Prop}{S:St}{As:List Asr}{k:K}(w:Word)(h:pe S k=some (.v (wa w)))(hp:LA P r post (put S d (.v (wa w))) As):LA P (⟨d,none,k⟩::r) post S As:=a_p h hp
theorem l5due_a{a:Nat}{x:HX}{b:Act}(h:Sound x.H)(hr:0≤b.a∧b.a≤15):FnA Tryz.prog 60 [ptr a,.int .i64 b.a] (hp a x) (fun v As=>∃z:HX,v=an (doDue x.H b).code (doDue x.H b).num∧As=hp a z∧z.H=(doDue x.H b).heap):=by
 have hl:=x.len
 have hnc:x.hdr.nc=x.xs.length:=rfl
 have hnr:x.hdr.nr=x.regs.length:=rfl
 have h16:x.regs.length=16:=h.r1.regs
 obtain⟨k,hk⟩:=Int.eq_ofNat_of_zero_le hr.1
 refine fnA_of (fun h=>fn60 (by simp) h) ?_
 have hlt:=ndG_lt x.H x.H.cells.length
 unfold doDue
 rw[hk]
 obtain⟨w,gw⟩:∃w,x.regs[k]?=some w:=⟨_,List.getElem?_eq_getElem (by omega)⟩
 by_cases hd:ndG x.H x.H.cells.length<0
 ·rw[if_pos hd]
  repeat' (first
   |(refine k_L ?_;first|(refine k_l ?_;refine g_l rfl ?_)|(refine k_i ?_;refine g_i rfl rfl ?_)|(refine k_st ?_;first|refine g_st rfl rfl rfl rfl ?_|refine g_sw rfl rfl rfl rfl (Nat.le_of_ble_eq_true rfl) ?_)|(refine k_al ?_;refine a_al ?_)|(refine k_c ?_;refine a_cq rfl (fun m hm=>l5fine_q) ?_)|(refine a_cq rfl (fun m hm=>l4next_q (x:=x) (sep_has hm pmt)) ?_)|(refine b_w ⟨0,0,0⟩ rfl ?_)|(refine b_p rfl ?_))
   |refine a_n ?_
   |(refine k_V ?_;first|refine v_seq ?_|refine v_reg ?_|refine v_ret ?_|(refine v_cd rfl (fun hb=>?_) (fun hb=>?_)<;>try(exfalso;omega)))
   |refine s_r ?_
   |refine sk_zero ?_
   |refine sk_succ ?_
   |refine wk_nil ?_
   |refine wk_cons ?_)
  all_goals exact fa_r (fun _ _=>rfl) (Pm.ent (fin ({x with regs:=x.regs.set k ⟨0,0,0⟩}:HX) (h1:=by simp[HX.hdr]))) ⟨_,rfl,rfl,rfl⟩
 ·rw[if_neg hd]
  obtain⟨j,hj⟩:=Int.eq_ofNat_of_zero_le (show 0≤ndG x.H x.H.cells.length by omega)
  rw[hj]at hlt hd⊢
  obtain⟨y,gy,gc⟩:=HX.at (x:=x) (i:=j) (by omega)
  repeat' (first
   |(refine k_L ?_;first|(refine k_l ?_;refine g_l rfl ?_)|(refine k_i ?_;refine g_i rfl rfl ?_)|(refine k_st ?_;first|refine g_st rfl rfl rfl rfl ?_|refine g_sw rfl rfl rfl rfl (Nat.le_of_ble_eq_true rfl) ?_)|(refine k_al ?_;refine a_al ?_)|(refine k_c ?_;refine a_cq rfl (fun m hm=>l5fine_q) ?_)|(refine a_cq rfl (fun m hm=>qt_e (l4next_q (x:=x) (sep_has hm pmt)) (by rw[hj])) ?_)|(refine b_w ⟨2,0,j⟩ rfl ?_)|(refine b_p rfl ?_))
   |refine a_n ?_
   |(refine k_V ?_;first|refine v_seq ?_|refine v_reg ?_|refine v_ret ?_|refine v_skip ?_|refine v_cf rfl ?_)
   |refine sk_zero ?_
   |refine sk_succ ?_
   |refine wk_nil ?_
   |refine wk_cons ?_)
  have gk:=HX.gc gy
  refine fa_r (fun _ _=>rfl) (Pm.ent (fin ({x with regs:=x.regs.set k ⟨2,0,j⟩,xs:=x.xs.set j (y.s_last 3)}:HX) (h1:=by simp[HX.hdr]))) ⟨_,rfl,rfl,?_⟩
  unfold Heap.setR Heap.putL
  simp only[Int.toNat_natCast]
  rw[gk]
  unfold HX.H
  simp only[List.map_set]
  rfl
end Go.Proofs.YtpleoapljeffiaaGreatDoor.E
namespace Go.Proofs.YtpleoapljeffiaaGreatDoor.E
open Go
noncomputable def e152:Env:=⟨Tryz.prog,[2,3,4,6,80],119,[(5,0),(9,0),(10,8),(11,11),(12,10)]⟩
noncomputable def c152:C:=
 .seq (.reg [zO 2 0,zO 3 1,zj 4 0 0]) (.seq (.seq (.reg [z4 7 0 2,z5 8 1 7,z6 9 8,z4 10 2 9,z5 11 1 10,zC 12 11 1000000000,z3 13 12,qY 14 13 2 2,zU 15 13 3 3,zR 16 13 1 15,⟨some 17,some (13,false),.bin .add (.const (.int .i64 1)) (.tmp 16)⟩,qg 18 13 161 14 17,qU 19 13 18,zW 20 13 19]) (.cond (.tmp 20) (.seq (.reg [zT 21 83 4,z7 2 4 21]) .ret) .skip)) (.seq (.reg [z9 22 2 2,zI 23 165 22,z3 5
 23]) (.seq (.reg [z4 24 0 2,z5 25 1 24,z6 26 25,z4 27 2 26,z5 28 1 27,zD 29 28 1,z6 30 25,z4 31 2 30,z7 1 31 29]) (.seq (.hreg [2,3,4,80] [z4 32 2 3,z5 33 1 32,z4 34 0 2,z5 35 1 34,z6 36 35,z4 37 2 36,z5 38 1 37,z4 39 3 3,z5 40 1 39] (.alt (qh 41 6 48 0 0 0 0 0 0 40 40) (.alt (qN 42 0 0 0 0 0 0 0 0 0 0 1 1 1 1 33 4 1 38 7 1 41) (.alt (zc 6 0 0 0 0 0 0 0 0 0) (.alf (z7 8 6 42) (.done) (.none))
 (.none)) (.alt (zc 6 0 0 0 0 0 0 0 0 0) (.alt (qN 42 0 0 0 0 0 0 0 0 0 0 1 1 1 1 33 4 1 38 7 1 41) (.alf (z7 8 6 42) (.done) (.none)) (.none)) (.none))) (.alt (zc 6 0 0 0 0 0 0 0 0 0) (.alt (qh 41 6 48 0 0 0 0 0 0 40 40) (.alt (qN 42 0 0 0 0 0 0 0 0 0 0 1 1 1 1 33 4 1 38 7 1 41) (.alf (z7 8 6 42) (.done) (.none)) (.none)) (.none)) (.none)))) (.seq (.seq (.reg [z4 43 0 2,z5 44 1 43,zI 45 150 44,
 z3 46 45,zU 47 46 0 2,zR 48 46 1 47,q4 49 46 48,zU 50 46 5 49,zR 51 46 1 50,zy 52 46 51 3,zV 53 46 52,zL 54 53 5,zM 55 53 0 2,zJ 56 53 1 55,zY 57 53 56,zM 58 53 6 57,zJ 59 53 1 58,⟨some 60,some (53,true),.bin .geq (.tmp 54) (.tmp 59)⟩,qD 61 46 53 60,zW 62 46 61]) (.cond (.tmp 62) (.reg [z4 63 5 6,ze 1 63 2]) .skip)) (.seq (.seq (.reg [z3 64 5,z4 65 0 2,z5 66 1 65,z6 67 66,z4 68 4 67,z5 69 1 68,
 zE 70 69,zt 71 64 70]) (.cond (.tmp 71) (.hreg [2,3,4,6] [z4 72 0 2,z5 73 1 72,z4 74 0 2,z5 75 1 74,z6 76 75,z4 77 4 76,z5 78 1 77,z9 79 8 6] (.alt ⟨some 80,none,.bslice true 1 8 [.int .i64 0,.int .i64 0,.int .i64 0,.int .i64 0,.int .i64 0,.int .i64 0,.int .i64 0,.slice none 0 0] [(0,8,.tmp 79)]⟩ (.alt ⟨some 81,none,.app 8 80 [.int .i64 0,.int .i64 0,.int .i64 0,.int .i64 0,.int .i64 0,.int .i64
 0,.int .i64 0,.slice none 0 0] (.tmp 78) (.tmp 80)⟩ (.alf (z6 82 73) (.alf (z4 83 4 82) (.alf (z7 1 83 81) (.done) (.none)) (.none)) (.none)) (.none)) (.none))) (.dreg 8 [z4 84 0 2,z5 85 1 84,z6 86 85,z4 87 4 86,z5 88 1 87,z3 89 5,z9 90 8 6,z8 91 8 88 89,z7 8 91 90]))) (.seq (.dreg 11 [z4 92 0 2,z5 93 1 92,z6 94 93,z4 95 1 94,z5 96 1 95,z4 97 3 3,z5 98 1 97,qG 99 1 98,zp 100 96 99,z6 101 93,z4
 102 1 101,z7 1 102 100]) (.seq (.dreg 10 [z4 103 0 2,z5 104 1 103,z6 105 104,z4 106 3 105,z5 107 1 106,z4 108 1 3,z5 109 1 108,z3 110 5,zo 111 0 0 0 0 1 2 2 1 110,z8 112 3 107 109,z7 3 112 111]) (.seq (.reg [z9 113 2 2,z4 114 3 3,z5 115 1 114,qG 116 1 115,zG 117 162 113 116]) (.seq (.reg [zT 118 131 0,z7 2 4 118]) .ret))))))))))
theorem t152:Tryz.f152.body.bind (trC e152)=some c152:=by kernel_rfl
theorem r152:Tryz.f152.results.toList.mapM (trR Tryz.prog)=some [.cell 4 false 2]:=by kernel_rfl
theorem fn152{args:List Value}{M:Mem}{post:Value→Mem→Prop}(hl:args.length≤119)(h:VC e152 c152 (fnQ [.cell 4 false 2] post) (initS args 119) M):Fn Tryz.prog 152 args M post:=
 Fn.of' (E:=e152) Tryz.func152 t152 rfl r152 mixed hl h
noncomputable def e128:Env:=⟨Tryz.prog,[3,5,6],70,[(1,14),(5,16),(6,7),(7,10)]⟩
noncomputable def c128:C:=
 .seq (.reg [zO 3 0,zO 5 2,zj 6 0 0]) (.seq (.seq (.dreg 14 [z4 8 0 3,z5 9 1 8,z6 10 9,z4 11 4 10,z5 12 1 11,z3 13 1,z8 14 8 12 13,z4 15 7 14,z5 16 1 15,zE 17 16,z4 18 3 5,z5 19 1 18,zp 20 17 19,q8 21 20 200]) (.cond (.tmp 21) (.seq (.reg [zT 22 83 5,z7 2 6 22]) .ret) .skip)) (.seq (.seq (.reg [z9 23 2 3,z4 24 3 5,z5 25 1 24,zG 26 161 23 25,zQ 27 26]) (.cond (.tmp 27) (.seq (.reg [zT 28 83 4,
 z7 2 6 28]) .ret) .skip)) (.seq (.dreg 16 [z4 29 0 3,z5 30 1 29,z6 31 30,z4 32 4 31,z5 33 1 32,z4 34 0 3,z5 35 1 34,z6 36 35,z4 37 3 36,z5 38 1 37,z4 39 1 5,z5 40 1 39,z8 41 3 38 40,z4 42 2 41,z5 43 1 42,z8 44 8 33 43,z3 7 44]) (.seq (.dreg 7 [z3 45 7,z3 46 7,z6 47 46,z4 48 7 47,z5 49 1 48,z4 50 3 5,z5 51 1 50,⟨some 52,none,.appz 6 48 [.int .i64 0,.int .i64 0,.int .i64 0,.int .i64 0,.int .i64 0,
 .int .i64 0] (.tmp 49) (.tmp 51)⟩,z6 53 45,z4 54 7 53,z7 1 54 52]) (.seq (.dreg 10 [z4 55 0 3,z5 56 1 55,z6 57 56,z4 58 1 57,z5 59 1 58,z4 60 3 5,z5 61 1 60,zp 62 59 61,z6 63 56,z4 64 1 63,z7 1 64 62]) (.seq (.reg [z9 65 2 3,z4 66 3 5,z5 67 1 66,zG 68 162 65 67]) (.seq (.reg [zT 69 131 0,z7 2 6 69]) .ret)))))))
theorem t128:Tryz.f128.body.bind (trC e128)=some c128:=by kernel_rfl
theorem r128:Tryz.f128.results.toList.mapM (trR Tryz.prog)=some [.cell 6 false 2]:=by kernel_rfl
theorem fn128{args:List Value}{M:Mem}{post:Value→Mem→Prop}(hl:args.length≤70)(h:VC e128 c128 (fnQ [.cell 6 false 2] post) (initS args 70) M):Fn Tryz.prog 128 args M post:=
 Fn.of' (E:=e128) Tryz.func128 t128 rfl r128 mixed hl h
noncomputable def e84:Env:=⟨Tryz.prog,[2,3,4],210,[(6,12),(15,12),(24,8),(26,7),(29,15),(31,15),(33,12),(34,6),(36,12),(37,6)]⟩
noncomputable def c84:C:=
 .seq (.reg [zO 2 0,zO 3 1,zj 4 0 0]) (.seq (.reg [zA 5 (-1)]) (.seq (.seq (.reg [z4 8 0 3,z5 9 1 8]) (.block 0 (.seq (.seq (.reg [zC 14 9 5,z3 13 14]) (.cond (.tmp 13) .skip (.reg [zC 15 9 6,z3 13 15]))) (.cond (.tmp 13) (.dreg 12 [z4 16 0 2,z5 17 1 16,z4 18 0 2,z5 19 1 18,z6 20 19,z4 21 3 20,z5 22 1 21,z4 23 2 3,z5 24 1 23,z8 25 3 22 24,z9 26 3 25,zn 27 124 17 26,z3 5 27]) (.seq (.seq
 (.reg [zC 29 9 7,z3 28 29]) (.cond (.tmp 28) .skip (.seq (.reg [zC 30 9 8,z3 28 30]) (.cond (.tmp 28) .skip (.seq (.reg [zC 31 9 9,z3 28 31]) (.cond (.tmp 28) .skip (.seq (.reg [zC 32 9 10,z3 28 32]) (.cond (.tmp 28) .skip (.seq (.reg [zC 33 9 11,z3 28 33]) (.cond (.tmp 28) .skip (.seq (.reg [zC 34 9 12,z3 28 34]) (.cond (.tmp 28) .skip (.seq (.reg [zC 35 9 16,z3 28 35]) (.cond (.tmp 28)
 .skip (.reg [zC 36 9 17,z3 28 36]))))))))))))))) (.cond (.tmp 28) (.dreg 12 [z4 37 0 2,z5 38 1 37,z4 39 0 2,z5 40 1 39,z6 41 40,z4 42 3 41,z5 43 1 42,z4 44 1 3,z5 45 1 44,z8 46 3 43 45,z9 47 3 46,zn 48 124 38 47,z3 5 48]) (.seq (.reg [z9 10 2 2,z9 11 5 3,zG 12 125 10 11,z7 2 4 12]) .ret))))))) (.seq (.seq (.reg [z3 49 5,zZ 50 49 0]) (.cond (.tmp 50) (.seq (.reg [zT 51 83 2,z7 2 4 51]) .ret)
 .skip)) (.seq (.reg [z4 52 0 2,z5 53 1 52,z6 54 53,z4 55 4 54,z5 56 1 55,z3 57 5,z8 58 8 56 57,z3 6 58]) (.seq (.seq (.reg [z4 59 0 3,z5 60 1 59]) (.block 1 (.seq (.seq (.reg [zC 62 60 5,z3 61 62]) (.cond (.tmp 61) .skip (.seq (.reg [zC 63 60 6,z3 61 63]) (.cond (.tmp 61) .skip (.seq (.reg [zC 64 60 7,z3 61 64]) (.cond (.tmp 61) .skip (.reg [zC 65 60 8,z3 61 65]))))))) (.cond (.tmp 61)
 (.seq (.seq (.dreg 8 [z4 66 3 3,z5 67 1 66,z3 68 6,z6 69 68,z4 70 7 69,z5 71 1 70,zE 72 71,qH 73 67 72]) (.cond (.tmp 73) (.seq (.reg [zT 74 83 3,z7 2 4 74]) .ret) .skip)) (.seq (.dreg 7 [z3 75 6,z6 76 75,z4 77 7 76,z5 78 1 77,z4 79 3 3,z5 80 1 79,z8 81 6 78 80,z3 7 81]) (.seq (.reg [z4 82 0 3,z5 83 1 82]) (.block 2 (.seq (.reg [zC 85 83 5,z3 84 85]) (.cond (.tmp 84) (.dreg 15 [z4 86 0 2,z5
 87 1 86,z6 88 87,z4 89 3 88,z5 90 1 89,z4 91 1 3,z5 92 1 91,z4 93 0 2,z5 94 1 93,z3 95 7,z6 96 95,z4 97 0 96,z9 98 3 97,zn 99 126 94 98,z8 100 3 90 92,z7 3 100 99]) (.seq (.reg [zC 102 83 6,z3 101 102]) (.cond (.tmp 101) (.dreg 15 [z4 103 0 2,z5 104 1 103,z6 105 104,z4 106 3 105,z5 107 1 106,z4 108 1 3,z5 109 1 108,z4 110 0 2,z5 111 1 110,z3 112 7,z6 113 112,z4 114 3 113,z9 115 3 114,zn 116 126
 111 115,z8 117 3 107 109,z7 3 117 116]) (.seq (.reg [zC 119 83 7,z3 118 119]) (.cond (.tmp 118) (.seq (.dreg 12 [z3 120 7,z4 121 0 2,z5 122 1 121,z6 123 122,z4 124 3 123,z5 125 1 124,z4 126 2 3,z5 127 1 126,z8 128 3 125 127,z9 129 3 128,z6 130 120,z4 131 0 130,z7 3 131 129]) (.dreg 6 [z4 132 0 2,z5 133 1 132,z3 134 7,z6 135 134,z4 136 0 135,z9 137 3 136,zG 138 127 133 137])) (.seq (.reg [zC
 140 83 8,z3 139 140]) (.cond (.tmp 139) (.seq (.dreg 12 [z3 141 7,z4 142 0 2,z5 143 1 142,z6 144 143,z4 145 3 144,z5 146 1 145,z4 147 2 3,z5 148 1 147,z8 149 3 146 148,z9 150 3 149,z6 151 141,z4 152 3 151,z7 3 152 150]) (.dreg 6 [z4 153 0 2,z5 154 1 153,z3 155 7,z6 156 155,z4 157 3 156,z9 158 3 157,zG 159 127 154 158])) .skip)))))))))))) (.seq (.reg [zC 161 60 9,z3 160 161]) (.cond (.tmp 160)
 (.seq (.reg [z9 162 2 2,z3 163 5,z9 164 5 3,qW 165 128 162 163 164,z7 2 4 165]) .ret) (.seq (.reg [zC 167 60 10,z3 166 167]) (.cond (.tmp 166) (.reg [z9 168 2 2,z3 169 5,z4 170 3 3,z5 171 1 170,qW 172 129 168 169 171]) (.seq (.reg [zC 174 60 11,z3 173 174]) (.cond (.tmp 173) (.reg [z3 175 6,z4 176 3 3,z5 177 1 176,z6 178 175,z4 179 2 178,z7 1 179 177]) (.seq (.reg [zC 181 60 12,z3 180 181])
 (.cond (.tmp 180) (.seq (.reg [z3 182 6,z4 183 3 3,z5 184 1 183,z6 185 182,z4 186 3 185,z7 1 186 184]) (.seq (.reg [z4 187 3 3,z5 188 1 187,zC 189 188 1]) (.cond (.tmp 189) (.reg [z4 190 0 2,z5 191 1 190,z3 192 5,zG 193 130 191 192]) .skip))) (.seq (.reg [zC 195 60 16,z3 194 195]) (.cond (.tmp 194) (.seq (.reg [z3 196 6,z6 197 196,z4 198 1 197,z5 199 1 198,zI 200 131 199,z7 2 4 200]) .ret)
 (.seq (.reg [zC 202 60 17,z3 201 202]) (.cond (.tmp 201) (.seq (.reg [z3 203 6,z6 204 203,z4 205 7 204,z5 206 1 205,zE 207 206,zI 208 131 207,z7 2 4 208]) .ret) .skip)))))))))))))))) (.seq (.reg [zT 209 131 0,z7 2 4 209]) .ret))))))
theorem t84:Tryz.f84.body.bind (trC e84)=some c84:=by kernel_rfl
theorem r84:Tryz.f84.results.toList.mapM (trR Tryz.prog)=some [.cell 4 false 2]:=by kernel_rfl
theorem fn84{args:List Value}{M:Mem}{post:Value→Mem→Prop}(hl:args.length≤210)(h:VC e84 c84 (fnQ [.cell 4 false 2] post) (initS args 210) M):Fn Tryz.prog 84 args M post:=
 Fn.of' (E:=e84) Tryz.func84 t84 rfl r84 mixed hl h
noncomputable def e125:Env:=⟨Tryz.prog,[2,3,4],226,[(5,11),(7,9),(9,17),(11,19),(14,11),(16,11),(18,11),(25,9),(28,10),(31,0),(33,0),(40,0)]⟩
noncomputable def c125:C:=
 .seq (.reg [zO 2 0,zO 3 1,zj 4 0 0]) (.seq (.seq (.reg [z4 8 0 3,z5 9 1 8]) (.block 0 (.seq (.reg [zC 11 9 1,z3 10 11]) (.cond (.tmp 10) (.seq (.reg [z9 12 2 2,z9 13 5 3,zG 14 152 12 13,z7 2 4 14]) .ret) (.seq (.reg [zC 16 9 2,z3 15 16]) (.cond (.tmp 15) (.dreg 11 [z4 17 0 2,z5 18 1 17,z6 19 18,z4 20 3 19,z5 21 1 20,z4 22 1 3,z5 23 1 22,z4 24 4 3,z5 25 1 24,zo 26 0 0 0 0 1 1 1 1 25,z8 27 3
 21 23,z7 3 27 26]) (.seq (.reg [zC 29 9 3,z3 28 29]) (.cond (.tmp 28) (.dreg 9 [z4 30 0 2,z5 31 1 30,z6 32 31,z4 33 3 32,z5 34 1 33,z4 35 1 3,z5 36 1 35,qc 37 0 0 0,z8 38 3 34 36,z7 3 38 37]) (.seq (.reg [zC 40 9 4,z3 39 40]) (.cond (.tmp 39) (.dreg 17 [z4 41 0 2,z5 42 1 41,z6 43 42,z4 44 3 43,z5 45 1 44,z4 46 1 3,z5 47 1 46,z4 48 0 2,z5 49 1 48,z6 50 49,z4 51 3 50,z5 52 1 51,z4 53 2 3,z5 54
 1 53,z8 55 3 52 54,z9 56 3 55,z8 57 3 45 47,z7 3 57 56]) (.seq (.reg [zC 59 9 13,z3 58 59]) (.cond (.tmp 58) (.seq (.dreg 19 [z4 60 0 2,z5 61 1 60,z6 62 61,z4 63 3 62,z5 64 1 63,z4 65 1 3,z5 66 1 65,z8 67 3 64 66,z9 68 3 67,z4 69 0 2,z5 70 1 69,z6 71 70,z4 72 3 71,z5 73 1 72,z4 74 2 3,z5 75 1 74,z8 76 3 73 75,z9 77 3 76,⟨some 78,none,.eqA false 3 (.tmp 68) (.tmp 77)⟩]) (.cond (.tmp 78) (.seq
 (.reg [zT 79 131 1,z7 2 4 79]) .ret) .skip)) (.seq (.reg [zC 81 9 14,z3 80 81]) (.cond (.tmp 80) (.seq (.dreg 11 [z4 82 0 2,z5 83 1 82,z6 84 83,z4 85 3 84,z5 86 1 85,z4 87 1 3,z5 88 1 87,z8 89 3 86 88,z4 90 0 89,z5 91 1 90,qE 92 131 91,z7 2 4 92]) .ret) (.seq (.reg [zC 94 9 15,z3 93 94]) (.cond (.tmp 93) (.seq (.seq (.dreg 11 [z4 95 0 2,z5 96 1 95,z6 97 96,z4 98 3 97,z5 99 1 98,z4 100 1 3,z5
 101 1 100,z8 102 3 99 101,z4 103 0 102,z5 104 1 103,zq 105 104 1]) (.cond (.tmp 105) (.seq (.reg [zT 106 83 2,z7 2 4 106]) .ret) .skip)) (.seq (.dreg 11 [z4 107 0 2,z5 108 1 107,z6 109 108,z4 110 3 109,z5 111 1 110,z4 112 1 3,z5 113 1 112,z8 114 3 111 113,z4 115 1 114,z5 116 1 115,qM 117 0 0 1 1 116,z7 2 4 117]) .ret)) (.seq (.reg [zC 119 9 18,z3 118 119]) (.cond (.tmp 118) (.seq (.reg [z4
 121 0 2,z5 122 1 121,zI 123 153 122,z3 120 123,q6 124 120 0,q6 125 120 1,z3 5 124,z3 6 125]) (.seq (.reg [z3 126 6,zI 127 131 126,z7 2 4 127]) .ret)) (.seq (.reg [zC 129 9 19,z3 128 129]) (.cond (.tmp 128) (.seq (.reg [z4 130 0 2,z5 131 1 130,zI 132 154 131,z3 7 132]) (.seq (.seq (.reg [z3 133 7,zZ 134 133 0]) (.cond (.tmp 134) (.seq (.dreg 9 [z4 135 0 2,z5 136 1 135,z6 137 136,z4 138 3 137,
 z5 139 1 138,z4 140 1 3,z5 141 1 140,qc 142 0 0 0,z8 143 3 139 141,z7 3 143 142]) (.seq (.reg [zT 144 131 0,z7 2 4 144]) .ret)) .skip)) (.seq (.reg [z4 145 0 2,z5 146 1 145,z6 147 146,z4 148 4 147,z5 149 1 148,z3 150 7,z8 151 8 149 150,z4 152 3 151,ze 1 152 3]) (.seq (.dreg 10 [z4 153 0 2,z5 154 1 153,z6 155 154,z4 156 3 155,z5 157 1 156,z4 158 1 3,z5 159 1 158,z3 160 7,zo 161 0 0 0 0 1 2 2 1
 160,z8 162 3 157 159,z7 3 162 161]) (.seq (.reg [zT 163 131 1,z7 2 4 163]) .ret))))) (.seq (.reg [zC 165 9 20,z3 164 165]) (.cond (.tmp 164) (.seq (.hreg [2,3,4] [z4 166 0 2,z5 167 1 166,z4 168 0 2,z5 169 1 168] (.alt (zI 170 156 169) (.alt (zG 171 155 167 170) (.alt (zI 172 131 171) (.alf (z7 2 4 172) (.done) (.none)) (.none)) (.none)) (.none))) .ret) (.seq (.reg [zC 174 9 21,z3 173 174])
 (.cond (.tmp 173) (.seq (.hreg [2,3,4] [z4 175 0 2,z5 176 1 175,z4 177 0 2,z5 178 1 177] (.alt (zI 179 157 178) (.alt (zG 180 155 176 179) (.alt (zI 181 131 180) (.alf (z7 2 4 181) (.done) (.none)) (.none)) (.none)) (.none))) .ret) (.seq (.reg [zC 183 9 22,z3 182 183]) (.cond (.tmp 182) (.seq (.reg [z4 184 1 2,z5 185 1 184,zQ 186 185,z3 187 186,zM 188 187 3 3,zJ 189 187 1 188,qm 190 187 189 0,
 zP 191 187 190]) (.cond (.tmp 191) (.seq (.reg [z4 192 0 2,z5 193 1 192,zI 194 158 193]) (.reg [z4 195 0 2,z5 196 1 195,z4 197 3 3,z5 198 1 197,zG 199 159 196 198])) .skip)) (.seq (.reg [zC 201 9 23,z3 200 201]) (.cond (.tmp 200) (.seq (.reg [z4 202 1 2,z5 203 1 202,zQ 204 203]) (.cond (.tmp 204) (.hreg [2,3,4] [z4 205 0 2,z5 206 1 205,z4 207 0 2,z5 208 1 207,z4 209 2 3,z5 210 1 209,z4 211 3
 3,z5 212 1 211,z6 213 206,z4 214 9 213] (.alt (z7 1 214 210) (.alf (z6 215 208) (.alf (z4 216 10 215) (.alf (z7 1 216 212) (.done) (.none)) (.none)) (.none)) (.none))) .skip)) (.seq (.reg [zC 218 9 24,z3 217 218]) (.cond (.tmp 217) (.seq (.reg [z4 219 1 2,z5 220 1 219,zQ 221 220]) (.cond (.tmp 221) (.reg [z4 222 0 2,z5 223 1 222,zI 224 160 223]) .skip)) .skip))))))))))))))))))))))))))))))
 (.seq (.reg [zT 225 131 0,z7 2 4 225]) .ret))
theorem t125:Tryz.f125.body.bind (trC e125)=some c125:=by kernel_rfl
theorem r125:Tryz.f125.results.toList.mapM (trR Tryz.prog)=some [.cell 4 false 2]:=by kernel_rfl
theorem fn125{args:List Value}{M:Mem}{post:Value→Mem→Prop}(hl:args.length≤226)(h:VC e125 c125 (fnQ [.cell 4 false 2] post) (initS args 226) M):Fn Tryz.prog 125 args M post:=
 Fn.of' (E:=e125) Tryz.func125 t125 rfl r125 mixed hl h
noncomputable def e45:Env:=⟨Tryz.prog,[2,3,4],12,[]⟩
noncomputable def c45:C:=
 .seq (.reg [zO 2 0,zO 3 1,zj 4 0 0]) (.seq (.seq (.reg [z9 5 5 3,zI 6 82 5,zQ 7 6]) (.cond (.tmp 7) (.seq (.reg [zT 8 83 1,z7 2 4 8]) .ret) .skip)) (.seq (.reg [z9 9 2 2,z9 10 5 3,zG 11 84 9 10,z7 2 4 11]) .ret))
theorem t45:Tryz.f45.body.bind (trC e45)=some c45:=by kernel_rfl
theorem r45:Tryz.f45.results.toList.mapM (trR Tryz.prog)=some [.cell 4 false 2]:=by kernel_rfl
theorem fn45{args:List Value}{M:Mem}{post:Value→Mem→Prop}(hl:args.length≤12)(h:VC e45 c45 (fnQ [.cell 4 false 2] post) (initS args 12) M):Fn Tryz.prog 45 args M post:=
 Fn.of' (E:=e45) Tryz.func45 t45 rfl r45 mixed hl h
noncomputable def e46:Env:=⟨Tryz.prog,[2,3],15,[]⟩
noncomputable def c46:C:=
 .seq (.reg [zO 2 0,zO 3 1,zF 4]) (.seq (.seq (.reg [z4 5 0 2,z5 6 1 5,z4 7 0 3,z5 8 1 7,zN 9 6 8]) (.cond (.tmp 9) (.seq (.reg [zF 4]) .ret) .skip)) (.seq (.seq (.reg [z4 10 1 2,z5 11 1 10,z4 12 1 3,z5 13 1 12,zN 14 11 13]) (.cond (.tmp 14) (.seq (.reg [zF 4]) .ret) .skip)) (.seq (.reg [zX 4]) .ret)))
theorem t46:Tryz.f46.body.bind (trC e46)=some c46:=by kernel_rfl
theorem r46:Tryz.f46.results.toList.mapM (trR Tryz.prog)=some [.tmp 4]:=by kernel_rfl
theorem fn46{args:List Value}{M:Mem}{post:Value→Mem→Prop}(hl:args.length≤15)(h:VC e46 c46 (fnQ [.tmp 4] post) (initS args 15) M):Fn Tryz.prog 46 args M post:=
 Fn.of' (E:=e46) Tryz.func46 t46 rfl r46 mixed hl h
noncomputable def e4:Env:=⟨Tryz.prog,[2,3,6,7,8,12],77,[(5,0),(7,0),(10,0),(24,0)]⟩
noncomputable def c4:C:=
 .seq (.reg [zO 2 0,zO 3 1,zF 4]) (.seq (.reg [zA 5 1048576]) (.seq (.reg [z9 13 13 2,z3 14 5,zG 15 14 13 14,z3 5 15]) (.seq (.seq (.reg [z3 16 5,zZ 17 16 0]) (.cond (.tmp 17) (.seq (.reg [zX 4]) .ret) .skip)) (.seq (.zreg [18,19,20,21,22,6] [z9 18 13 2,z9 20 5 3,qq 6 0 0 0 0 0 0 0 0 0 0 0 0 0 0 0 0 0 0] [zI 19 16 18,zI 21 17 20,zG 22 15 19 21,z7 15 6 22]) (.seq (.reg [z9 23 13 2,zI 24 16
 23,⟨some 7,none,.alloc true [.int .i64 0,.int .i64 0,.int .i64 0,.slice none 0 0,.slice none 0 0,.int .i64 0,.int .i64 0,.int .i64 0,.slice none 0 0,.int .i64 0,.int .i64 0,.int .i64 0,.int .i64 0]⟩,z7 13 7 24]) (.seq (.zreg [25,26,27,28,8] [z9 25 13 7,z9 26 5 3,qq 8 0 0 0 0 0 0 0 0 0 0 0 0 0 0 0 0 0 0] [zI 27 17 26,zG 28 18 25 27,z7 15 8 28]) (.seq (.seq (.reg [z9 29 15 8,z9 30 15 6,zG 31 19
 29 30,zQ 32 31]) (.cond (.tmp 32) (.seq (.reg [zF 4]) .ret) .skip)) (.seq (.seq (.zreg [33,34,35,36,37] [z9 33 13 7,z9 34 13 2] [zI 35 16 34,zG 36 20 33 35,zQ 37 36]) (.cond (.tmp 37) (.seq (.reg [zF 4]) .ret) .skip)) (.seq (.reg [zA 9 1]) (.seq (.reg [z9 38 13 7,z3 39 9,zG 40 21 38 39,z3 9 40]) (.seq (.seq (.reg [z3 41 9,zZ 42 41 0,z3 43 42,qY 44 43 15 8,qY 45 43 15 6,qg 46 43 19 44 45,qU
 47 43 46,zW 48 43 47]) (.cond (.tmp 48) (.seq (.reg [zF 4]) .ret) .skip)) (.seq (.reg [zA 10 1]) (.seq (.reg [z9 49 15 8,z3 50 10,zG 51 22 49 50,z3 10 51]) (.seq (.reg [zA 11 1]) (.seq (.reg [z9 52 15 8,z3 53 11,zG 54 23 52 53,z3 11 54]) (.seq (.seq (.reg [z3 55 11,zZ 56 55 0]) (.cond (.tmp 56) (.seq (.reg [zF 4]) .ret) .skip)) (.seq (.seq (.reg [z3 57 11,z3 58 10,zN 59 57 58]) (.cond
 (.tmp 59) (.seq (.reg [zF 4]) .ret) .skip)) (.seq (.zreg [60,61,62,63,64,12] [z9 60 13 2,z9 62 5 3,qq 12 0 0 0 0 0 0 0 0 0 0 0 0 0 0 0 0 0 0] [zI 61 16 60,zI 63 17 62,zG 64 18 61 63,z7 15 12 64]) (.seq (.seq (.reg [z9 65 15 12,z9 66 15 6,zG 67 19 65 66,zQ 68 67]) (.cond (.tmp 68) (.seq (.reg [zF 4]) .ret) .skip)) (.seq (.reg [zA 11 1]) (.seq (.reg [z9 69 15 8,z3 70 11,zG 71 23 69 70,z3 11
 71]) (.seq (.seq (.reg [z3 72 11,zZ 73 72 0]) (.cond (.tmp 73) (.seq (.reg [zF 4]) .ret) .skip)) (.seq (.seq (.reg [z3 74 11,z3 75 10,zN 76 74 75]) (.cond (.tmp 76) (.seq (.reg [zF 4]) .ret) .skip)) (.seq (.reg [zX 4]) .ret))))))))))))))))))))))))
theorem r4:Tryz.f4.results.toList.mapM (trR Tryz.prog)=some [.tmp 4]:=by kernel_rfl
end Go.Proofs.YtpleoapljeffiaaGreatDoor.E
namespace Go.Proofs.YtpleoapljeffiaaGreatDoor.E
open Go
open Classical
theorem place_q{m:Mem}{a:Nat}{x:HX}(h:Has m (hp a x)):Qt Tryz.prog 165 [eV a] m (.int .i64 (frG x.H x.xs.length)):=by
 have hb0:=h.lens
 have hl:=x.len
 have hnc:x.hdr.nc=x.xs.length:=rfl
 refine qt_of (fnA_of (fun h=>fn165 (by simp) h) ?_)
 obtain⟨f1,f2,f3,f4⟩:=frG_ok x.H x.xs.length
 repeat' (first
  |(refine k_L ?_;first|refine a_p rfl ?_|(refine k_l ?_;refine g_l rfl ?_)|(refine k_bx ?_;refine a_bx rfl rfl ?_))
  |refine a_n ?_
  |(refine k_V ?_;first|refine v_seq ?_|refine v_reg ?_|refine v_ct rfl ?_)
  |refine s_n ?_)
 refine g_range x.xs.length (fun _:Unit=>[(1,.box [ptr a,.bool false]),(12,.v (.slice x.cd.a x.xs.length x.cd.cap))]) (fun _=>[ro m]) (fun i _=>∀j:Nat,j<i→(x.H.getC j).state≠0) () (fun j hj=>by omega) (fun i _ hi hv=>?_) (fun _ hv=>?_)
 ·obtain⟨y,gy,gc⟩:=HX.at hi
  have gk:=HX.gc gy
  repeat' (first
   |(refine k_L ?_;first|refine a_p rfl ?_|(refine k_i ?_;refine g_i rfl rfl ?_)|(refine k_ls ?_;refine g_ls rfl ?_)|(refine k_st ?_;refine g_sw rfl rfl rfl rfl (Nat.le_of_ble_eq_true rfl) ?_)|(refine k_al ?_;refine a_al ?_))
   |refine a_n ?_
   |(refine k_V ?_;first|refine v_seq ?_|refine v_reg ?_|refine v_ret ?_|refine v_skip ?_|(refine v_cd rfl (fun hb=>?_) (fun hb=>?_)<;>try(exfalso;omega)))
   |refine s_r ?_
   |refine r_rt ?_
   |refine sk_zero ?_
   |refine sk_succ ?_
   |refine wk_nil ?_
   |refine wk_cons ?_)
  ·refine fa_q (by simp) (fun _ _=>rfl) ?_
   congr 1
   rcases Int.lt_or_le (frG x.H x.xs.length) i with e|e
   ·have h1:=(f3 (by omega)).2
    have h2:=hv (frG x.H x.xs.length).toNat (by omega)
    rw[show(((frG x.H x.xs.length).toNat:Nat):Int)=frG x.H x.xs.length by omega]at h2
    exact absurd h1 h2
   ·rcases Int.lt_or_le i (frG x.H x.xs.length)with e2|e2
    ·exact absurd (by rw[gk];assumption) (f4 i hi e2)
    ·omega
  ·refine r_nx () (fun j hj=>?_)
   by_cases e:j=i
   ·subst e;rw[gk];assumption
   ·exact hv j (by omega)
 ·repeat' (first
   |(refine k_L ?_;first|refine a_p rfl ?_|(refine k_l ?_;refine g_l rfl ?_))
   |refine a_n ?_
   |(refine k_V ?_;first|refine v_seq ?_|refine v_reg ?_|refine v_ret ?_))
  refine fa_q (by simp) (fun _ _=>rfl) ?_
  congr 1
  rcases Int.lt_or_le (frG x.H x.xs.length) x.H.cells.length with e|e
  ·have h1:=(f3 e).2
   have h2:=hv (frG x.H x.xs.length).toNat (by omega)
   rw[show(((frG x.H x.xs.length).toNat:Nat):Int)=frG x.H x.xs.length by omega]at h2
   exact absurd h1 h2
  ·omega
theorem v_vib{E:Env}{a:C}{K:St→List Asr→Prop}{Q:X→St→List Asr→Prop}{S:St}{As:List Asr}(J:St→List Asr→Prop)(h:VA E a (seqA J Q) S As)(h2:∀S As,J S As→K S As):VA E a (seqA K Q) S As:=
 v_mono h fun x S As hq=>by cases x<;>first|exact h2 _ _ hq|exact hq
theorem cl_spl{cd:D}{ys:List CS}{i:Nat}{y:CS}{R:List Asr}(hi:ys[i]?=some y):Ent (clA cd ys::R) (slA 8 csv cd ys::slA 6 pv y.d y.c.pairs::prA (ys.eraseIdx i)::R):=cl_open.trans (Ent.cons (ent_of fun m hm=>by
 obtain⟨a,b,d,rfl,h1,h2⟩:=hm
 have:=pr_out hi h1
 obtain⟨c,e,d2,rfl,k1,k2⟩:=star2.1 this
 refine⟨c,e.un b,?_,un_assoc _ _ _,k1,e,b,(disj_un'.1 d).2,rfl,k2,h2⟩
 exact disj_un.2 ⟨d2,(disj_un'.1 d).1⟩))
theorem cl_joi{cd:D}{ys:List CS}{i:Nat}{y':CS}{R:List Asr}(hi:i<ys.length):Ent (slA 8 csv cd (ys.set i y')::slA 6 pv y'.d y'.c.pairs::prA (ys.eraseIdx i)::R) (clA cd (ys.set i y')::R):=(Ent.cons (ent_of fun m hm=>by
 obtain⟨c,r,d,rfl,k1,e,b,d2,rfl,k2,h2⟩:=hm
 obtain⟨d3,d4⟩:=disj_un.1 d
 refine⟨c.un e,b,disj_un'.2 ⟨d4,d2⟩,(un_assoc _ _ _).symm,pr_in hi (star2.2 ⟨c,e,d3,rfl,k1,k2⟩),h2⟩)).trans cl_close
def HX.bnp(x:HX):HX:={x with born:=x.born+1}
theorem make_a{a:Nat}{x:HX}{op n:Int}{ka kb kc:Nat}(h:Sound x.H)(ha:ka≤15)(hb:kb≤255)(hc:kc≤200):FnA Tryz.prog 152 [eV a,.agg #[.int .i64 op,.int .i64 ka,.int .i64 kb,.int .i64 kc,.int .i64 n]] (hp a x) (fun v As=>∃z:HX,v=an (doNew x.H ⟨op,ka,kb,kc,n⟩).code (doNew x.H ⟨op,ka,kb,kc,n⟩).num∧As=hp a z∧z.H=(doNew x.H ⟨op,ka,kb,kc,n⟩).heap):=by
 have hl:=x.len
 have e1:x.hdr.born=x.H.born:=rfl
 refine fnA_of (fun h=>fn152 (by simp) h) ?_
 obtain⟨f1,f2,f3,f4,f5,f6,f7⟩:=fits_ok h (1+kc)
 unfold doNew
 dsimp only
 by_cases c0:x.H.born=1000000000
 ·rw[if_pos c0]
  repeat' (first
   |(refine k_L ?_;first|refine a_p rfl ?_|(refine k_g ?_;first|refine a_gn rfl rfl ?_|(refine a_gd rfl (fun hb=>?_) (fun hb=>?_)<;>try(exfalso;omega)))|(refine k_l ?_;refine g_l rfl ?_)|(refine k_st ?_;refine g_sw rfl rfl rfl rfl (Nat.le_of_ble_eq_true rfl) ?_)|(refine k_al ?_;refine a_al ?_)|(refine k_bx ?_;refine a_bx rfl rfl ?_)|(refine k_c ?_;refine a_cq rfl (fun m hm=>codeE_q) ?_))
   |refine a_n ?_
   |(refine k_V ?_;first|refine v_seq ?_|refine v_reg ?_|refine v_ret ?_|refine v_ct rfl ?_)
   |refine s_r ?_
   |refine sk_zero ?_
   |refine sk_succ ?_
   |refine wk_nil ?_
   |refine wk_cons ?_)
  all_goals exact fa_r (fun _ _=>rfl) (Pm.ent pmt) ⟨x,rfl,rfl,rfl⟩
 ·rw[if_neg c0]
  generalize hF:x.H.fitsH (1+kc)=F at*
  have hbn:=f1.r1.born
  by_cases c2:F.used+(1+kc)≤F.room
  ·rw[if_pos c2]
   repeat' (first
    |(refine k_L ?_;first|(refine k_ad ?_;refine g_ad rfl rfl ?_)|refine a_p rfl ?_|(refine k_g ?_;first|refine a_gy rfl rfl ?_|(refine a_gd rfl (fun hb=>?_) (fun hb=>?_)<;>try(exfalso;omega)))|(refine k_l ?_;refine g_l rfl ?_)|(refine k_st ?_;refine g_sw rfl rfl rfl rfl (Nat.le_of_ble_eq_true rfl) ?_)|(refine k_al ?_;refine a_al ?_)|(refine k_bx ?_;refine a_bx rfl rfl ?_)|(refine k_c ?_;refine a_cq rfl (fun m hm=>codeE_q) ?_)|(refine g_c rfl (fits_a (x:=x) (u:=1+(kc:Int)) h (by omega)) (fun v As' hq=>?_);obtain⟨z,rfl,rfl,hz⟩:=hq;rw[hF]at hz;have zb:z.hdr.born=F.born:=congrArg Heap.born hz))
    |refine a_n ?_
    |(refine k_V ?_;first|refine v_seq ?_|refine v_reg ?_|refine v_ret ?_|refine v_skip ?_|(refine v_cnd rfl (fun hb=>?_) (fun hb=>?_)<;>try(exfalso;omega)))
    |refine s_r ?_
    |refine sk_zero ?_
    |refine sk_succ ?_
    |refine wk_nil ?_
    |refine wk_cons ?_)
   ·exfalso;rw[hF]at hb;omega
   subst hz
   have zl:=z.len
   have z16:z.regs.length=16:=f1.r1.regs
   have g3:=f1.r1.cells
   have g2:=f1.r1.room
   have ub:=f1.r3
   have un:=unitsN_nn z.H.cells
   unfold R3 at ub
   obtain⟨p0,p1,p2,p3⟩:=frG_ok z.H z.H.cells.length
   obtain⟨j,hj⟩:=Int.eq_ofNat_of_zero_le p0
   have ef:frG z.H z.xs.length=j:=by rw[←zl];exact hj
   have xph:z.bnp.hdr.phase=z.H.phase:=rfl
   have xha:z.bnp.hdr.hand=z.H.hand:=rfl
   have xnc:z.bnp.hdr.nc=z.xs.length:=rfl
   have xnr:z.bnp.hdr.nr=z.regs.length:=rfl
   have xus:z.bnp.hdr.used=z.H.used:=rfl
   have xxs:z.bnp.xs.length=z.xs.length:=rfl
   have hmk:Marking z.bnp.H↔Marking z.H:=Iff.rfl
   repeat' (first
    |(refine k_L ?_;first|(refine k_ad ?_;refine g_ad rfl rfl ?_)|refine a_p rfl ?_|(refine k_l ?_;refine g_l rfl ?_)|(refine k_st ?_;refine g_st rfl rfl rfl rfl ?_)|(refine k_c ?_;refine a_cq rfl (fun m hm=>qt_e (place_q (x:=z) (sep_has hm pmt)) (by rw[ef])) ?_))
    |refine a_n ?_
    |(refine k_V ?_;first|refine v_seq ?_|refine v_reg ?_))
   refine VA.ent (Pm.ent (fin z.bnp)) ?_
   refine v_vib (fun S As=>∃g:D,leA [(2,.box [ptr a,.bool false]),(3,.box [.int .i64 op,.int .i64 ka,.int .i64 kb,.int .i64 kc,.int .i64 n]),(4,.box [.int .i64 0,.int .i64 0]),(5,.v (.int .i64 j)),(6,.box [.int .i64 1,.int .i64 kb,.int .i64 0,.int .i64 0,.int .i64 (z.born+1),.int .i64 0,.int .i64 0,.slice g.a (List.replicate kc Pair.no).length g.cap])] S∧Ent As (slA 6 pv g (List.replicate kc Pair.no)::hp a z.bnp)) ?_ ?_
   ·refine v_hreg (Gs:=[slA 3 wv z.bnp.rd z.bnp.regs,clA z.bnp.cd z.bnp.xs,slA 1 iv z.bnp.gd z.bnp.gray]) [hdA a z.bnp.hdr] pmt ?_
    repeat' (first
     |(refine k_L ?_;first|refine a_p rfl ?_|(refine k_l ?_;refine g_l rfl ?_)|(refine k_st ?_;refine g_sw rfl rfl rfl rfl (Nat.le_of_ble_eq_true rfl) ?_)|(refine k_al ?_;refine a_al ?_)|(refine a_mk (f:=pv) (n:=(kc:Int)) (k:=(kc:Int)) Pair.no pv_len rfl rfl rfl (by omega) (by omega) (fun g hg=>?_)))
     |refine a_n ?_
     |refine s_n ?_
     |refine sk_zero ?_
     |refine sk_succ ?_
     |refine wk_nil ?_
     |refine wk_cons ?_
     |refine t_a ?_ t_n
     |refine t_f ?_ t_n
     |refine t_a ?_ ?_
     |refine t_d ?_
     |refine kl_1 rfl ?_
     |refine kl_0 ?_)
    all_goals exact⟨g,⟨rfl,rfl,rfl,rfl,(by rw[List.length_replicate];rfl),trivial⟩,Pm.ent pmt⟩
   rintro S As ⟨g,hS,hE⟩
   refine VA.ent hE (v_weak _ hS ?_)
   clear hS hE S As
   refine v_seq (v_vib (fun S As=>leA [(2,.box [ptr a,.bool false]),(3,.box [.int .i64 op,.int .i64 ka,.int .i64 kb,.int .i64 kc,.int .i64 n]),(4,.box [.int .i64 0,.int .i64 0]),(5,.v (.int .i64 j)),(6,.box [.int .i64 1,.int .i64 kb,.int .i64 0,.int .i64 0,.int .i64 (z.born+1),.int .i64 (newCol z.H j),.int .i64 0,.slice g.a (List.replicate kc Pair.no).length g.cap])] S∧Ent As (slA 6 pv g (List.replicate kc Pair.no)::hp a z.bnp)) ?_ ?_)
   ·repeat' (first
     |(refine k_L ?_;first|refine a_p rfl ?_|(refine k_g ?_;first|refine a_gy rfl rfl ?_|refine a_gn rfl rfl ?_|refine a_gu rfl ?_|(refine a_gd rfl (fun hb=>?_) (fun hb=>?_)<;>try(exfalso;omega)))|(refine k_l ?_;refine g_l rfl ?_)|(refine k_st ?_;refine g_sw rfl rfl rfl rfl (Nat.le_of_ble_eq_true rfl) ?_)|(refine k_c ?_;refine a_cq rfl (fun m hm=>qt_e (marking_q (x:=z.bnp.hs) (Has.ph (sep_has hm pmt))) (show Value.bool (decide (Marking z.bnp.hs.H))=.bool (decide (Marking z.H))from rfl)) ?_))
     |refine a_n ?_
     |(refine k_V ?_;first|refine v_seq ?_|refine v_reg ?_|refine v_skip ?_|refine v_ct rfl ?_|refine v_cf rfl ?_|(refine v_cd rfl (fun hb=>?_) (fun hb=>?_)<;>try(exfalso;omega)))
     |refine s_n ?_
     |refine sk_zero ?_
     |refine sk_succ ?_
     |refine wk_nil ?_
     |refine wk_cons ?_)
    all_goals refine⟨⟨rfl,rfl,rfl,rfl,?_,trivial⟩,Pm.ent pmt⟩
    all_goals first
     |(rw[show newCol z.H j=2 by unfold newCol;rw[if_pos];unfold Marking at*;omega];rfl)
     |(rw[show newCol z.H j=0 by unfold newCol;rw[if_neg];unfold Marking at*;omega];rfl)
   rintro S As ⟨hS,hE⟩
   refine VA.ent hE (v_weak _ hS ?_)
   clear hS hE S As
   generalize hy:(⟨Cell.fresh kb (z.born+1) (newCol z.H j) kc,g.a,g.cap⟩:CS)=yn
   obtain⟨w,gw⟩:∃w,z.bnp.regs[ka]?=some w:=⟨_,List.getElem?_eq_getElem (by show ka<z.regs.length;omega)⟩
   have hsl:slA 6 pv g (List.replicate kc Pair.no)=slA 6 pv yn.d yn.c.pairs:=by rw[←hy];rfl
   have hcol:0≤newCol z.H j:=by unfold newCol;split<;>omega
   by_cases hje:j=z.xs.length
   ·have hH:HX.H {z.bnp with xs:=z.xs++[yn],used:=z.used+(1+kc),regs:=z.regs.set ka ⟨2,0,j⟩}=z.H.newH (ka:Int).toNat kb (kc:Int).toNat:=by
     unfold Heap.newH
     rw[hj,Int.toNat_natCast,Int.toNat_natCast,Int.toNat_natCast]
     unfold addC
     rw[if_pos (by rw[zl];exact hje),←hy]
     unfold HX.H HX.bnp
     simp only[List.map_append,List.map_cons,List.map_nil,Heap.mk.injEq,true_and,and_true]
     omega
    repeat' (first
     |(refine k_L ?_;first|refine a_p rfl ?_|(refine k_l ?_;refine g_l rfl ?_))
     |refine a_n ?_
     |(refine k_V ?_;first|refine v_seq ?_|refine v_reg ?_|(refine v_cd rfl (fun hb=>?_) (fun hb=>?_)<;>try(exfalso;omega))))
    refine VA.ent (Bs:=[slA 8 csv z.bnp.cd z.bnp.xs,prA z.bnp.xs,slA 6 pv g (List.replicate kc Pair.no),slA 3 wv z.bnp.rd z.bnp.regs,slA 1 iv z.bnp.gd z.bnp.gray,hdA a z.bnp.hdr]) ?_ ?_
    ·exact(Pm.ent (As1:=[clA z.bnp.cd z.bnp.xs,slA 6 pv g (List.replicate kc Pair.no),hdA a z.bnp.hdr,slA 3 wv z.bnp.rd z.bnp.regs,slA 1 iv z.bnp.gd z.bnp.gray]) pmt).trans (cl_open.trans (Pm.ent pmt))
    refine v_hreg (Gs:=[slA 8 csv z.bnp.cd z.bnp.xs,prA z.bnp.xs,slA 6 pv g (List.replicate kc Pair.no),slA 3 wv z.bnp.rd z.bnp.regs,slA 1 iv z.bnp.gd z.bnp.gray]) [hdA a z.bnp.hdr] ⟨fun m hm=>hm⟩ ?_
    repeat' (first
     |(refine k_L ?_;first|refine a_p rfl ?_|(refine k_l ?_;refine g_l rfl ?_)|(refine k_bl ?_;refine a_bl rfl ?_))
     |refine a_n ?_
     |refine t_a ?_ t_n
     |refine kl_1 rfl ?_
     |refine kl_0 ?_)
    refine g_ap yn csv_len rfl rfl (by rw[←hy];rfl) (by omega) (hb:=by omega) (fun cd'=>?_)
    repeat' (first
     |(refine k_L ?_;first|(refine k_ad ?_;refine g_ad rfl rfl ?_)|(refine k_l ?_;refine g_l rfl ?_)|(refine k_i ?_;refine g_i rfl rfl ?_)|(refine k_st ?_;refine g_st rfl rfl rfl rfl ?_)|(refine b_w ⟨2,0,j⟩ rfl ?_)|(refine b_p rfl ?_))
     |refine a_n ?_
     |(refine k_V ?_;first|refine v_seq ?_|refine v_reg ?_|refine v_dreg ?_)
     |refine t_f ?_ t_n
     |refine t_d ?_
     |refine kl_1 rfl ?_
     |refine kl_0 ?_)
    refine LA.ent (Bs:=hp a ({z.bnp with xs:=z.xs++[yn],cd:=cd',used:=z.used+(1+kc),regs:=z.regs.set ka ⟨2,0,j⟩}:HX)) ?_ ?_
    ·rw[hsl]
     refine((Pm.ent (As1:=[slA 8 csv cd' (z.xs++[yn]),prA z.xs,slA 6 pv yn.d yn.c.pairs,hdA a _,slA 3 wv z.rd (z.regs.set ka ⟨2,0,j⟩),slA 1 iv z.gd z.gray]) pmt).trans (cl_snoc (y:=yn))).trans (Pm.ent (fin ({z.bnp with xs:=z.xs++[yn],cd:=cd',used:=z.used+(1+kc),regs:=z.regs.set ka ⟨2,0,j⟩}:HX) (h1:=by simp[HX.hdr,Hdr.s_room,Hdr.s_used,Hdr.s_born,Hdr.s_phase,Hdr.s_hand,Hdr.s_sub,Hdr.s_per,Hdr.s_start,Hdr.s_rounds,Hdr.s_forced,Hdr.s_rd,Hdr.s_cd,Hdr.s_gd,HX.bnp]) (h2:=by simp[HX.hdr,Hdr.s_room,Hdr.s_used,Hdr.s_born,Hdr.s_phase,Hdr.s_hand,Hdr.s_sub,Hdr.s_per,Hdr.s_start,Hdr.s_rounds,Hdr.s_forced,Hdr.s_rd,Hdr.s_cd,Hdr.s_gd,HX.bnp]) (e1:=by simp[HX.hdr,Hdr.s_room,Hdr.s_used,Hdr.s_born,Hdr.s_phase,Hdr.s_hand,Hdr.s_sub,Hdr.s_per,Hdr.s_start,Hdr.s_rounds,Hdr.s_forced,Hdr.s_rd,Hdr.s_cd,Hdr.s_gd,HX.bnp])))
    refine g_c rfl (pace_a (x:=({z.bnp with xs:=z.xs++[yn],cd:=cd',used:=z.used+(1+kc),regs:=z.regs.set ka ⟨2,0,j⟩}:HX)) (u:=1+(kc:Int)) (by show Sound (HX.H {z.bnp with xs:=z.xs++[yn],used:=z.used+(1+kc),regs:=z.regs.set ka ⟨2,0,j⟩});rw[hH];exact new_sound f1 (by omega) (by omega) (by omega) (by omega)) (by omega)) (fun v' As' hq=>?_)
    obtain⟨r,rfl,hr⟩:=hq
    repeat' (first
     |(refine k_L ?_;first|(refine k_st ?_;refine g_sw rfl rfl rfl rfl (Nat.le_of_ble_eq_true rfl) ?_)|(refine k_c ?_;refine a_cq rfl (fun m hm=>numE_q) ?_))
     |refine a_n ?_
     |(refine k_V ?_;first|refine v_seq ?_|refine v_reg ?_|refine v_ret ?_)
     |refine sk_zero ?_
     |refine sk_succ ?_
     |refine wk_nil ?_
     |refine wk_cons ?_)
    exact fa_r (fun _ _=>rfl) (Pm.ent pmt) ⟨r,rfl,rfl,by rw[hr];exact congrArg (fun K=>K.paceH (1+(kc:Int))) hH⟩
   ·obtain⟨y0,gy0,gc0⟩:=HX.at (x:=z) (i:=j) (by omega)
    have gy0':z.bnp.xs[j]?=some y0:=gy0
    have hH:HX.H {z.bnp with xs:=z.xs.set j yn,used:=z.used+(1+kc),regs:=z.regs.set ka ⟨2,0,j⟩}=z.H.newH (ka:Int).toNat kb (kc:Int).toNat:=by
     unfold Heap.newH
     rw[hj,Int.toNat_natCast,Int.toNat_natCast,Int.toNat_natCast]
     unfold addC
     rw[if_neg (by rw[zl];exact hje),←hy]
     unfold HX.H HX.bnp
     simp only[List.map_set,Heap.mk.injEq,true_and,and_true]
     omega
    repeat' (first
     |(refine k_L ?_;first|refine a_p rfl ?_|(refine k_l ?_;refine g_l rfl ?_)|(refine k_i ?_;refine g_i rfl rfl ?_))
     |refine a_n ?_
     |(refine k_V ?_;first|refine v_seq ?_|refine v_reg ?_|refine v_dreg ?_|(refine v_cd rfl (fun hb=>?_) (fun hb=>?_)<;>try(exfalso;omega))))
    refine LA.ent (Bs:=[slA 8 csv z.bnp.cd z.bnp.xs,slA 6 pv y0.d y0.c.pairs,prA (z.bnp.xs.eraseIdx j),slA 6 pv g (List.replicate kc Pair.no),hdA a z.bnp.hdr,slA 3 wv z.bnp.rd z.bnp.regs,slA 1 iv z.bnp.gd z.bnp.gray]) ?_ ?_
    ·exact(Pm.ent (As1:=[clA z.bnp.cd z.bnp.xs,slA 6 pv g (List.replicate kc Pair.no),hdA a z.bnp.hdr,slA 3 wv z.bnp.rd z.bnp.regs,slA 1 iv z.bnp.gd z.bnp.gray]) pmt).trans ((cl_spl gy0').trans (Pm.ent pmt))
    refine a_st rfl rfl rfl rfl (up_h (up_sl (j:=0) (e':=yn) csv_len gy0' (by simp[Value.cells]) (by rw[←hy];rfl))) ?_
    repeat' (first
     |(refine k_L ?_;first|(refine k_ad ?_;refine g_ad rfl rfl ?_)|(refine k_l ?_;refine g_l rfl ?_)|(refine k_i ?_;refine g_i rfl rfl ?_)|(refine k_st ?_;refine g_st rfl rfl rfl rfl ?_)|(refine b_w ⟨2,0,j⟩ rfl ?_)|(refine b_p rfl ?_))
     |refine a_n ?_
     |(refine k_V ?_;first|refine v_seq ?_|refine v_reg ?_|refine v_dreg ?_))
    refine LA.ent (Bs:=hp a ({z.bnp with xs:=z.xs.set j yn,used:=z.used+(1+kc),regs:=z.regs.set ka ⟨2,0,j⟩}:HX)) ?_ ?_
    ·rw[hsl]
     refine((Pm.ent (As1:=[slA 8 csv z.cd (z.xs.set j yn),slA 6 pv yn.d yn.c.pairs,prA (z.xs.eraseIdx j),hdA a _,slA 3 wv z.rd (z.regs.set ka ⟨2,0,j⟩),slA 1 iv z.gd z.gray]) pmt).trans (cl_joi (y':=yn) (by omega))).trans (Pm.ent (fin ({z.bnp with xs:=z.xs.set j yn,used:=z.used+(1+kc),regs:=z.regs.set ka ⟨2,0,j⟩}:HX) (h1:=by simp[HX.hdr,Hdr.s_room,Hdr.s_used,Hdr.s_born,Hdr.s_phase,Hdr.s_hand,Hdr.s_sub,Hdr.s_per,Hdr.s_start,Hdr.s_rounds,Hdr.s_forced,Hdr.s_rd,Hdr.s_cd,Hdr.s_gd,HX.bnp]) (h2:=by simp[HX.hdr,Hdr.s_room,Hdr.s_used,Hdr.s_born,Hdr.s_phase,Hdr.s_hand,Hdr.s_sub,Hdr.s_per,Hdr.s_start,Hdr.s_rounds,Hdr.s_forced,Hdr.s_rd,Hdr.s_cd,Hdr.s_gd,HX.bnp]) (e1:=by simp[HX.hdr,Hdr.s_room,Hdr.s_used,Hdr.s_born,Hdr.s_phase,Hdr.s_hand,Hdr.s_sub,Hdr.s_per,Hdr.s_start,Hdr.s_rounds,Hdr.s_forced,Hdr.s_rd,Hdr.s_cd,Hdr.s_gd,HX.bnp])))
    refine g_c rfl (pace_a (x:=({z.bnp with xs:=z.xs.set j yn,used:=z.used+(1+kc),regs:=z.regs.set ka ⟨2,0,j⟩}:HX)) (u:=1+(kc:Int)) (by show Sound (HX.H {z.bnp with xs:=z.xs.set j yn,used:=z.used+(1+kc),regs:=z.regs.set ka ⟨2,0,j⟩});rw[hH];exact new_sound f1 (by omega) (by omega) (by omega) (by omega)) (by omega)) (fun v' As' hq=>?_)
    obtain⟨r,rfl,hr⟩:=hq
    repeat' (first
     |(refine k_L ?_;first|(refine k_st ?_;refine g_sw rfl rfl rfl rfl (Nat.le_of_ble_eq_true rfl) ?_)|(refine k_c ?_;refine a_cq rfl (fun m hm=>numE_q) ?_))
     |refine a_n ?_
     |(refine k_V ?_;first|refine v_seq ?_|refine v_reg ?_|refine v_ret ?_)
     |refine sk_zero ?_
     |refine sk_succ ?_
     |refine wk_nil ?_
     |refine wk_cons ?_)
    exact fa_r (fun _ _=>rfl) (Pm.ent pmt) ⟨r,rfl,rfl,by rw[hr];exact congrArg (fun K=>K.paceH (1+(kc:Int))) hH⟩
  ·rw[if_neg c2]
   repeat' (first
    |(refine k_L ?_;first|(refine k_ad ?_;refine g_ad rfl rfl ?_)|refine a_p rfl ?_|(refine k_g ?_;first|refine a_gy rfl rfl ?_|(refine a_gd rfl (fun hb=>?_) (fun hb=>?_)<;>try(exfalso;omega)))|(refine k_l ?_;refine g_l rfl ?_)|(refine k_st ?_;refine g_sw rfl rfl rfl rfl (Nat.le_of_ble_eq_true rfl) ?_)|(refine k_al ?_;refine a_al ?_)|(refine k_bx ?_;refine a_bx rfl rfl ?_)|(refine k_c ?_;refine a_cq rfl (fun m hm=>codeE_q) ?_)|(refine g_c rfl (fits_a (x:=x) (u:=1+(kc:Int)) h (by omega)) (fun v As' hq=>?_);obtain⟨z,rfl,rfl,hz⟩:=hq))
    |refine a_n ?_
    |(refine k_V ?_;first|refine v_seq ?_|refine v_reg ?_|refine v_ret ?_|refine v_skip ?_|(refine v_cnd rfl (fun hb=>?_) (fun hb=>?_)<;>try(exfalso;omega)))
    |refine s_r ?_
    |refine sk_zero ?_
    |refine sk_succ ?_
    |refine wk_nil ?_
    |refine wk_cons ?_)
   all_goals first
    |(exfalso;rw[hF]at hb;omega)
    |exact fa_r (fun _ _=>rfl) (Pm.ent pmt) ⟨z,rfl,rfl,by rw[hz,hF]⟩
    |trace_state
theorem Hue.symm{H K:Heap}(h:Hue H K):Hue K H:=
 ⟨h.len.symm,fun j=>by rw[h.cell j];rfl,h.regs.symm,h.room.symm,h.born.symm,h.per.symm,h.start.symm,h.forced.symm⟩
end Go.Proofs.YtpleoapljeffiaaGreatDoor.E
