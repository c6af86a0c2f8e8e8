/- A part of the proof. Conditions: none. -/
import Derived.Test.YtpleoapljeffiaaGreatDoorKE4
set_option maxRecDepth 100000
set_option linter.unusedVariables false
namespace Go.Proofs.YtpleoapljeffiaaGreatDoor.E
open Go
noncomputable def e85:Env:=⟨Tryz.prog,[2,3],20,[]⟩
abbrev zG(a0:Nat)(a1:Nat)(a2:Int):I:=⟨some a0,none,.bin .add (.tmp a1) (.const (.int .i64 a2))⟩
abbrev zM(a0:Nat)(a1:Nat)(a2:Nat):I:=⟨some a0,none,.call a1 [.tmp a2]⟩
abbrev zV(a0:Nat)(a1:Nat):I:=⟨some a0,none,.not (.tmp a1)⟩
abbrev zW(a0:Nat)(a1:Nat)(a2:Nat):I:=⟨some a0,none,.bin .neq (.tmp a1) (.tmp a2)⟩
abbrev zc(a0:Nat)(a1:Nat)(a2:Int):I:=⟨some a0,none,.bin .lss (.tmp a1) (.const (.int .i64 a2))⟩
abbrev zp(a0:Nat)(a1:Int)(a2:Int)(a3:Int)(a4:Int)(a5:Int)(a6:Int):I:=⟨some a0,none,.alloc true [.int .i64 a1,.int .i64 a2,.int .i64 a3,.int .i64 a4,.int .i64 a5,.int .i64 a6]⟩
abbrev zx(a0:Nat)(a1:Nat)(a2:Nat):I:=⟨some a0,none,.mov (.const (.slice none a1 a2))⟩
abbrev q6(a0:Nat)(a1:Nat)(a2:Nat)(a3:Nat):I:=⟨some a0,none,.qcall a1 [.tmp a2,.tmp a3]⟩
abbrev qF(a0:Nat)(a1:Nat)(a2:Nat):I:=⟨some a0,none,.bin .sub (.tmp a1) (.tmp a2)⟩
abbrev qj(a0:Nat)(a1:Nat)(a2:Nat)(a3:Int)(a4:Int)(a5:Int)(a6:Int)(a7:Int)(a8:Int)(a9:Nat)(a10:Nat):I:=⟨some a0,none,.mkslice a1 a2 [.int .i64 a3,.int .i64 a4,.int .i64 a5,.int .i64 a6,.int .i64 a7,.int .i64 a8] (.tmp a9) (.tmp a10)⟩
abbrev j5(a0:Nat)(a1:Int)(a2:Int)(a3:Int)(a4:Nat)(a5:Nat)(a6:Nat)(a7:Nat)(a8:Int)(a9:Int)(a10:Int)(a11:Nat)(a12:Nat)(a13:Int)(a14:Int)(a15:Int)(a16:Int):I:=⟨some a0,none,.alloc true [.int .i64 a1,.int .i64 a2,.int .i64 a3,.slice none a4 a5,.slice none a6 a7,.int .i64 a8,.int .i64 a9,.int .i64 a10,.slice none a11 a12,.int .i64 a13,.int .i64 a14,.int .i64 a15,.int .i64 a16]⟩
noncomputable def c85:C:=
 .seq (.reg [zT 2 0,zT 3 1,zD 4]) (.seq (.seq (.reg [z4 5 0 2,z5 6 1 5,z4 7 0 3,z5 8 1 7,zW 9 6 8]) (.cond (.tmp 9) (.seq (.reg [zD 4]) .ret) .skip)) (.seq (.seq (.reg [z4 10 1 2,z5 11 1 10,z4 12 1 3,z5 13 1 12,zW 14 11 13]) (.cond (.tmp 14) (.seq (.reg [zD 4]) .ret) .skip)) (.seq (.seq (.reg [z4 15 2 2,z5 16 1 15,z4 17 2 3,z5 18 1 17,zW 19 16 18]) (.cond (.tmp 19) (.seq (.reg [zD 4]) .ret)
 .skip)) (.seq (.reg [zZ 4]) .ret))))
theorem t85:Tryz.f85.body.bind (trC e85)=some c85:=by kernel_rfl
theorem r85:Tryz.f85.results.toList.mapM (trR Tryz.prog)=some [.tmp 4]:=by kernel_rfl
theorem fn85{args:List Value}{M:Mem}{post:Value→Mem→Prop}(hl:args.length≤20)(h:VC e85 c85 (fnQ [.tmp 4] post) (initS args 20) M):Fn Tryz.prog 85 args M post:=
 Fn.of' (E:=e85) Tryz.func85 t85 rfl r85 mixed hl h
noncomputable def e47:Env:=⟨Tryz.prog,[],27,[(6,10)]⟩
noncomputable def c47:C:=
 .seq (.reg [zD 4]) (.seq (.seq (.reg [z3 6 0,zE 7 6,z3 8 1,zE 9 8,zW 10 7 9]) (.cond (.tmp 10) (.seq (.reg [zD 4]) .ret) .skip)) (.seq (.seq (.reg [zC 5 0]) (.block 0 (.loop (.seq (.seq (.reg [z3 11 5,z3 12 0,zE 13 12,zN 14 11 13]) (.cond (.tmp 14) .skip (.exit 0))) (.seq (.block 1 (.seq (.dreg 10 [z3 17 0,z3 18 5,z8 19 3 17 18,z9 20 3 19,z3 21 1,z3 22 5,z8 23 3 21 22,z9 24 3 23,q6 25 85 20
 24,zV 26 25]) (.cond (.tmp 26) (.seq (.reg [zD 4]) .ret) .skip))) (.reg [z3 15 5,zG 16 15 1,z3 5 16])))))) (.seq (.reg [zZ 4]) .ret)))
theorem t47:Tryz.f47.body.bind (trC e47)=some c47:=by kernel_rfl
theorem r47:Tryz.f47.results.toList.mapM (trR Tryz.prog)=some [.tmp 4]:=by kernel_rfl
theorem fn47{args:List Value}{M:Mem}{post:Value→Mem→Prop}(hl:args.length≤27)(h:VC e47 c47 (fnQ [.tmp 4] post) (initS args 27) M):Fn Tryz.prog 47 args M post:=
 Fn.of' (E:=e47) Tryz.func47 t47 rfl r47 mixed hl h
noncomputable def e164:Env:=⟨Tryz.prog,[2,3],17,[]⟩
noncomputable def c164:C:=
 .seq (.reg [zT 2 0,zT 3 1,zD 4]) (.seq (.seq (.reg [z4 5 0 2,z9 6 3 5,z4 7 0 3,z9 8 3 7,zL 9 85 6 8,zV 10 9]) (.cond (.tmp 10) (.seq (.reg [zD 4]) .ret) .skip)) (.seq (.seq (.reg [z4 11 3 2,z9 12 3 11,z4 13 3 3,z9 14 3 13,zL 15 85 12 14,zV 16 15]) (.cond (.tmp 16) (.seq (.reg [zD 4]) .ret) .skip)) (.seq (.reg [zZ 4]) .ret)))
theorem t164:Tryz.f164.body.bind (trC e164)=some c164:=by kernel_rfl
theorem r164:Tryz.f164.results.toList.mapM (trR Tryz.prog)=some [.tmp 4]:=by kernel_rfl
theorem fn164{args:List Value}{M:Mem}{post:Value→Mem→Prop}(hl:args.length≤17)(h:VC e164 c164 (fnQ [.tmp 4] post) (initS args 17) M):Fn Tryz.prog 164 args M post:=
 Fn.of' (E:=e164) Tryz.func164 t164 rfl r164 mixed hl h
noncomputable def e132:Env:=⟨Tryz.prog,[],27,[(6,10)]⟩
noncomputable def c132:C:=
 .seq (.reg [zD 4]) (.seq (.seq (.reg [z3 6 0,zE 7 6,z3 8 1,zE 9 8,zW 10 7 9]) (.cond (.tmp 10) (.seq (.reg [zD 4]) .ret) .skip)) (.seq (.seq (.reg [zC 5 0]) (.block 0 (.loop (.seq (.seq (.reg [z3 11 5,z3 12 0,zE 13 12,zN 14 11 13]) (.cond (.tmp 14) .skip (.exit 0))) (.seq (.block 1 (.seq (.dreg 10 [z3 17 0,z3 18 5,z8 19 6 17 18,z9 20 6 19,z3 21 1,z3 22 5,z8 23 6 21 22,z9 24 6 23,q6 25 164
 20 24,zV 26 25]) (.cond (.tmp 26) (.seq (.reg [zD 4]) .ret) .skip))) (.reg [z3 15 5,zG 16 15 1,z3 5 16])))))) (.seq (.reg [zZ 4]) .ret)))
theorem t132:Tryz.f132.body.bind (trC e132)=some c132:=by kernel_rfl
theorem r132:Tryz.f132.results.toList.mapM (trR Tryz.prog)=some [.tmp 4]:=by kernel_rfl
theorem fn132{args:List Value}{M:Mem}{post:Value→Mem→Prop}(hl:args.length≤27)(h:VC e132 c132 (fnQ [.tmp 4] post) (initS args 27) M):Fn Tryz.prog 132 args M post:=
 Fn.of' (E:=e132) Tryz.func132 t132 rfl r132 mixed hl h
noncomputable def e86:Env:=⟨Tryz.prog,[2,3],46,[]⟩
noncomputable def c86:C:=
 .seq (.reg [zT 2 0,zT 3 1,zD 4]) (.seq (.seq (.reg [z4 5 0 2,z5 6 1 5,z4 7 0 3,z5 8 1 7,zW 9 6 8]) (.cond (.tmp 9) (.seq (.reg [zD 4]) .ret) .skip)) (.seq (.seq (.reg [z4 10 1 2,z5 11 1 10,z4 12 1 3,z5 13 1 12,zW 14 11 13]) (.cond (.tmp 14) (.seq (.reg [zD 4]) .ret) .skip)) (.seq (.seq (.reg [z4 15 2 2,z5 16 1 15,z4 17 2 3,z5 18 1 17,zW 19 16 18]) (.cond (.tmp 19) (.seq (.reg [zD 4]) .ret)
 .skip)) (.seq (.seq (.reg [z4 20 3 2,z5 21 1 20,z4 22 3 3,z5 23 1 22,zW 24 21 23]) (.cond (.tmp 24) (.seq (.reg [zD 4]) .ret) .skip)) (.seq (.seq (.reg [z4 25 4 2,z5 26 1 25,z4 27 4 3,z5 28 1 27,zW 29 26 28]) (.cond (.tmp 29) (.seq (.reg [zD 4]) .ret) .skip)) (.seq (.seq (.reg [z4 30 5 2,z5 31 1 30,z4 32 5 3,z5 33 1 32,zW 34 31 33]) (.cond (.tmp 34) (.seq (.reg [zD 4]) .ret) .skip)) (.seq
 (.seq (.reg [z4 35 6 2,z5 36 1 35,z4 37 6 3,z5 38 1 37,zW 39 36 38]) (.cond (.tmp 39) (.seq (.reg [zD 4]) .ret) .skip)) (.seq (.seq (.reg [z4 40 7 2,z5 41 1 40,z4 42 7 3,z5 43 1 42,zL 44 132 41 43,zV 45 44]) (.cond (.tmp 45) (.seq (.reg [zD 4]) .ret) .skip)) (.seq (.reg [zZ 4]) .ret)))))))))
theorem t86:Tryz.f86.body.bind (trC e86)=some c86:=by kernel_rfl
theorem r86:Tryz.f86.results.toList.mapM (trR Tryz.prog)=some [.tmp 4]:=by kernel_rfl
theorem fn86{args:List Value}{M:Mem}{post:Value→Mem→Prop}(hl:args.length≤46)(h:VC e86 c86 (fnQ [.tmp 4] post) (initS args 46) M):Fn Tryz.prog 86 args M post:=
 Fn.of' (E:=e86) Tryz.func86 t86 rfl r86 mixed hl h
noncomputable def e48:Env:=⟨Tryz.prog,[],27,[(6,10)]⟩
noncomputable def c48:C:=
 .seq (.reg [zD 4]) (.seq (.seq (.reg [z3 6 0,zE 7 6,z3 8 1,zE 9 8,zW 10 7 9]) (.cond (.tmp 10) (.seq (.reg [zD 4]) .ret) .skip)) (.seq (.seq (.reg [zC 5 0]) (.block 0 (.loop (.seq (.seq (.reg [z3 11 5,z3 12 0,zE 13 12,zN 14 11 13]) (.cond (.tmp 14) .skip (.exit 0))) (.seq (.block 1 (.seq (.dreg 10 [z3 17 0,z3 18 5,z8 19 8 17 18,z9 20 8 19,z3 21 1,z3 22 5,z8 23 8 21 22,z9 24 8 23,q6 25 86 20
 24,zV 26 25]) (.cond (.tmp 26) (.seq (.reg [zD 4]) .ret) .skip))) (.reg [z3 15 5,zG 16 15 1,z3 5 16])))))) (.seq (.reg [zZ 4]) .ret)))
theorem t48:Tryz.f48.body.bind (trC e48)=some c48:=by kernel_rfl
theorem r48:Tryz.f48.results.toList.mapM (trR Tryz.prog)=some [.tmp 4]:=by kernel_rfl
theorem fn48{args:List Value}{M:Mem}{post:Value→Mem→Prop}(hl:args.length≤27)(h:VC e48 c48 (fnQ [.tmp 4] post) (initS args 27) M):Fn Tryz.prog 48 args M post:=
 Fn.of' (E:=e48) Tryz.func48 t48 rfl r48 mixed hl h
noncomputable def e49:Env:=⟨Tryz.prog,[],26,[(6,9)]⟩
noncomputable def c49:C:=
 .seq (.reg [zD 4]) (.seq (.seq (.reg [z3 6 0,zE 7 6,z3 8 1,zE 9 8,zW 10 7 9]) (.cond (.tmp 10) (.seq (.reg [zD 4]) .ret) .skip)) (.seq (.seq (.reg [zC 5 0]) (.block 0 (.loop (.seq (.seq (.reg [z3 11 5,z3 12 0,zE 13 12,zN 14 11 13]) (.cond (.tmp 14) .skip (.exit 0))) (.seq (.block 1 (.seq (.dreg 9 [z3 17 0,z3 18 5,z8 19 1 17 18,z5 20 1 19,z3 21 1,z3 22 5,z8 23 1 21 22,z5 24 1 23,zW 25 20
 24]) (.cond (.tmp 25) (.seq (.reg [zD 4]) .ret) .skip))) (.reg [z3 15 5,zG 16 15 1,z3 5 16])))))) (.seq (.reg [zZ 4]) .ret)))
theorem t49:Tryz.f49.body.bind (trC e49)=some c49:=by kernel_rfl
theorem r49:Tryz.f49.results.toList.mapM (trR Tryz.prog)=some [.tmp 4]:=by kernel_rfl
theorem fn49{args:List Value}{M:Mem}{post:Value→Mem→Prop}(hl:args.length≤26)(h:VC e49 c49 (fnQ [.tmp 4] post) (initS args 26) M):Fn Tryz.prog 49 args M post:=
 Fn.of' (E:=e49) Tryz.func49 t49 rfl r49 mixed hl h
noncomputable def e20:Env:=⟨Tryz.prog,[2,3],73,[]⟩
noncomputable def c20:C:=
 .seq (.reg [zT 2 0,zT 3 1,zD 4]) (.seq (.seq (.reg [z4 5 0 2,z5 6 1 5,z4 7 0 3,z5 8 1 7,zW 9 6 8]) (.cond (.tmp 9) (.seq (.reg [zD 4]) .ret) .skip)) (.seq (.seq (.reg [z4 10 1 2,z5 11 1 10,z4 12 1 3,z5 13 1 12,zW 14 11 13]) (.cond (.tmp 14) (.seq (.reg [zD 4]) .ret) .skip)) (.seq (.seq (.reg [z4 15 2 2,z5 16 1 15,z4 17 2 3,z5 18 1 17,zW 19 16 18]) (.cond (.tmp 19) (.seq (.reg [zD 4]) .ret)
 .skip)) (.seq (.seq (.reg [z4 20 3 2,z5 21 1 20,z4 22 3 3,z5 23 1 22,zL 24 47 21 23,zV 25 24]) (.cond (.tmp 25) (.seq (.reg [zD 4]) .ret) .skip)) (.seq (.seq (.reg [z4 26 4 2,z5 27 1 26,z4 28 4 3,z5 29 1 28,zL 30 48 27 29,zV 31 30]) (.cond (.tmp 31) (.seq (.reg [zD 4]) .ret) .skip)) (.seq (.seq (.reg [z4 32 5 2,z5 33 1 32,z4 34 5 3,z5 35 1 34,zW 36 33 35]) (.cond (.tmp 36) (.seq (.reg [zD
 4]) .ret) .skip)) (.seq (.seq (.reg [z4 37 6 2,z5 38 1 37,z4 39 6 3,z5 40 1 39,zW 41 38 40]) (.cond (.tmp 41) (.seq (.reg [zD 4]) .ret) .skip)) (.seq (.seq (.reg [z4 42 7 2,z5 43 1 42,z4 44 7 3,z5 45 1 44,zW 46 43 45]) (.cond (.tmp 46) (.seq (.reg [zD 4]) .ret) .skip)) (.seq (.seq (.reg [z4 47 8 2,z5 48 1 47,z4 49 8 3,z5 50 1 49,zL 51 49 48 50,zV 52 51]) (.cond (.tmp 52) (.seq (.reg [zD 4])
 .ret) .skip)) (.seq (.seq (.reg [z4 53 9 2,z5 54 1 53,z4 55 9 3,z5 56 1 55,zW 57 54 56]) (.cond (.tmp 57) (.seq (.reg [zD 4]) .ret) .skip)) (.seq (.seq (.reg [z4 58 10 2,z5 59 1 58,z4 60 10 3,z5 61 1 60,zW 62 59 61]) (.cond (.tmp 62) (.seq (.reg [zD 4]) .ret) .skip)) (.seq (.seq (.reg [z4 63 11 2,z5 64 1 63,z4 65 11 3,z5 66 1 65,zW 67 64 66]) (.cond (.tmp 67) (.seq (.reg [zD 4]) .ret)
 .skip)) (.seq (.seq (.reg [z4 68 12 2,z5 69 1 68,z4 70 12 3,z5 71 1 70,zW 72 69 71]) (.cond (.tmp 72) (.seq (.reg [zD 4]) .ret) .skip)) (.seq (.reg [zZ 4]) .ret))))))))))))))
theorem t20:Tryz.f20.body.bind (trC e20)=some c20:=by kernel_rfl
theorem r20:Tryz.f20.results.toList.mapM (trR Tryz.prog)=some [.tmp 4]:=by kernel_rfl
theorem fn20{args:List Value}{M:Mem}{post:Value→Mem→Prop}(hl:args.length≤73)(h:VC e20 c20 (fnQ [.tmp 4] post) (initS args 73) M):Fn Tryz.prog 20 args M post:=
 Fn.of' (E:=e20) Tryz.func20 t20 rfl r20 mixed hl h
noncomputable def e10:Env:=⟨Tryz.prog,[],27,[(6,10)]⟩
end Go.Proofs.YtpleoapljeffiaaGreatDoor.E
set_option linter.unusedSimpArgs false
namespace Go.Proofs.YtpleoapljeffiaaGreatDoor.E
open Go
open Classical
def wa(w:Word):Value:=.agg (wv w).toArray
def pa(p:Pair):Value:=.agg (pv p).toArray
def ca(x:CS):Value:=.agg (csv x).toArray
def aa(a:Act):Value:=.agg (av a).toArray
theorem eqWord_q{M:Mem}{a b:Word}:Qt Tryz.prog 85 [wa a,wa b] M (.bool (decide (a=b))):=by
 refine fn85 (by simp) ?_
 repeat' (first
  |(refine xw ?_)
  |(refine seqQ_n ?_)
  |(refine seqQ_r ?_)
  |(refine VC.cond _ rfl (fun hb=>?_) (fun hb=>?_))
  |(fail))
 all_goals (refine fnQ_r rfl (Mem.le_refl _) (q_end ?_))
 all_goals (cases a;cases b;simp_all)
theorem eqPair_q{M:Mem}{a b:Pair}:Qt Tryz.prog 164 [pa a,pa b] M (.bool (decide (a=b))):=by
 refine fn164 (by simp) ?_
 repeat' (first
  |(refine xw ?_)
  |(refine vl_cq rfl (eqWord_q (a:=a.key) (b:=b.key)) ?_)
  |(refine vl_cq rfl (eqWord_q (a:=a.val) (b:=b.val)) ?_)
  |(refine seqQ_n ?_)
  |(refine seqQ_r ?_)
  |(refine VC.cond _ rfl (fun hb=>?_) (fun hb=>?_))
  |(fail))
 all_goals (refine fnQ_r rfl (Mem.le_refl _) (q_end ?_))
 all_goals (cases a;cases b;simp_all)
theorem eqWordS_q{M:Mem}{va vb:Value}{xs ys:List Word}(ha:Sl M 3 wv va xs)(hb:Sl M 3 wv vb ys):Qt Tryz.prog 47 [va,vb] M (.bool (decide (xs=ys))):=by
 obtain⟨aa,ca,ea⟩:=ha.len
 obtain⟨ab,cb,eb⟩:=hb.len
 refine fn47 (by simp) ?_
 subst ea;subst eb
 repeat' (first
  |(refine vl_pure rfl ?_)
  |(refine vl_nil ?_)
  |(refine VC.seq ?_)
  |(refine VC.regV ?_)
  |(refine seqQ_n ?_))
 refine VC.cond _ rfl (fun h=>?_) (fun h=>?_)
 ·repeat' (first
   |(refine xw ?_)
   |(refine seqQ_r ?_)
   |(fail))
  refine fnQ_r rfl (Mem.le_refl _) (q_end ?_)
  have:xs≠ys:=fun e=>by have e2:=congrArg List.length e;first|(simp only[List.length_map]at e2;simp[e2]at h)|(simp[e2]at h)
  simp[this]
 have hbd:=ha.bound
 have hl:xs.length=ys.length:=Int.ofNat_inj.1 (by simpa using h)
 repeat' (first
  |(refine vl_pure rfl ?_)
  |(refine vl_nil ?_)
  |(refine VC.seq ?_)
  |(refine VC.regV ?_)
  |(refine VC.block ?_)
  |(refine VC.skip ?_))
 refine VC.loop (α:=Nat) (fun i=>[(0,.v (.slice aa xs.length ca)),(1,.v (.slice ab ys.length cb)),(5,.v (.int .i64 i))]) (fun k i M'=>k=xs.length-i∧i≤xs.length∧M'=M∧xs.take i=ys.take i)
  ⟨_,0,M,⟨rfl,rfl,rfl,trivial⟩,Mem.le_refl _,rfl,Nat.zero_le _,rfl,by simp⟩ ?_
 rintro k i M' ⟨rfl,hi,rfl,hpre⟩
 repeat' (first
  |(refine vl_pure rfl ?_)
  |(refine vl_nil ?_)
  |(refine VC.seq ?_)
  |(refine VC.regV ?_)
  |(refine seqQ_n ?_))
 refine VC.cond _ rfl (fun h=>?_) (fun h=>?_)
 ·have hi:i<xs.length:=by simpa using h
  obtain⟨x,gx⟩:∃x,xs[i]?=some x:=⟨_,List.getElem?_eq_getElem hi⟩
  obtain⟨y,gy⟩:∃y,ys[i]?=some y:=⟨_,List.getElem?_eq_getElem (hl▸hi)⟩
  obtain⟨b1,o1,rfl,h1⟩:=ha.at2 (fun _=>rfl) gx
  obtain⟨b2,o2,rfl,h2⟩:=hb.at2 (fun _=>rfl) gy
  repeat' (first
   |(refine vl_pure rfl ?_)
   |(refine vl_nil ?_)
   |(refine VC.seq ?_)
   |(refine vl_idx rfl rfl (by omega) ?_)
   |(refine vl_lds rfl (by first|exact h1|exact h2) ?_)
   |(refine vl_q rfl (eqWord_q) ?_)
   |(refine VC.dregV ?_)
   |(refine VC.block ?_)
   |(refine VC.skip ?_)
   |(refine seqQ_n ?_))
  refine VC.cond _ rfl (fun h=>?_) (fun h=>?_)
  ·repeat' (first
    |(refine xw ?_)
    |(refine seqQ_r ?_)
    |(refine blkQ_r ?_)
    |(fail))
   refine fnQ_r rfl (Mem.le_refl _) (q_end ?_)
   have:xs≠ys:=fun e=>by subst e;rw[gx]at gy;cases gy;simp at h
   simp[this]
  ·have hxy:x=y:=by simpa using h
   repeat' (first
    |(refine xw ?_)
    |(refine seqQ_n ?_)
    |(fail))
   refine⟨_,i+1,_,?_,⟨rfl,rfl,rfl,trivial⟩,Mem.le_refl _,rfl,hi,rfl,?_⟩
   ·omega
   ·rw[List.take_add_one,List.take_add_one,hpre,gx,gy,hxy]
 ·have hi:¬i<xs.length:=by simpa using h
  repeat' (first
   |(refine xw ?_)
   |(fail))
  refine fnQ_r rfl (Mem.le_refl _) (q_end ?_)
  have hxy:xs=ys:=by
   have e:i=xs.length:=by omega
   subst e
   rw[List.take_of_length_le (by simp),List.take_of_length_le (by simp[hl])]at hpre
   exact hpre
  simp[hxy]
theorem eqPairS_q{M:Mem}{va vb:Value}{xs ys:List Pair}(ha:Sl M 6 pv va xs)(hb:Sl M 6 pv vb ys):Qt Tryz.prog 132 [va,vb] M (.bool (decide (xs=ys))):=by
 obtain⟨aa,ca,ea⟩:=ha.len
 obtain⟨ab,cb,eb⟩:=hb.len
 refine fn132 (by simp) ?_
 subst ea;subst eb
 repeat' (first
  |(refine vl_pure rfl ?_)
  |(refine vl_nil ?_)
  |(refine VC.seq ?_)
  |(refine VC.regV ?_)
  |(refine seqQ_n ?_))
 refine VC.cond _ rfl (fun h=>?_) (fun h=>?_)
 ·repeat' (first
   |(refine xw ?_)
   |(refine seqQ_r ?_)
   |(fail))
  refine fnQ_r rfl (Mem.le_refl _) (q_end ?_)
  have:xs≠ys:=fun e=>by have e2:=congrArg List.length e;first|(simp only[List.length_map]at e2;simp[e2]at h)|(simp[e2]at h)
  simp[this]
 have hbd:=ha.bound
 have hl:xs.length=ys.length:=Int.ofNat_inj.1 (by simpa using h)
 repeat' (first
  |(refine vl_pure rfl ?_)
  |(refine vl_nil ?_)
  |(refine VC.seq ?_)
  |(refine VC.regV ?_)
  |(refine VC.block ?_)
  |(refine VC.skip ?_))
 refine VC.loop (α:=Nat) (fun i=>[(0,.v (.slice aa xs.length ca)),(1,.v (.slice ab ys.length cb)),(5,.v (.int .i64 i))]) (fun k i M'=>k=xs.length-i∧i≤xs.length∧M'=M∧xs.take i=ys.take i)
  ⟨_,0,M,⟨rfl,rfl,rfl,trivial⟩,Mem.le_refl _,rfl,Nat.zero_le _,rfl,by simp⟩ ?_
 rintro k i M' ⟨rfl,hi,rfl,hpre⟩
 repeat' (first
  |(refine vl_pure rfl ?_)
  |(refine vl_nil ?_)
  |(refine VC.seq ?_)
  |(refine VC.regV ?_)
  |(refine seqQ_n ?_))
 refine VC.cond _ rfl (fun h=>?_) (fun h=>?_)
 ·have hi:i<xs.length:=by simpa using h
  obtain⟨x,gx⟩:∃x,xs[i]?=some x:=⟨_,List.getElem?_eq_getElem hi⟩
  obtain⟨y,gy⟩:∃y,ys[i]?=some y:=⟨_,List.getElem?_eq_getElem (hl▸hi)⟩
  obtain⟨b1,o1,rfl,h1⟩:=ha.at2 (fun _=>rfl) gx
  obtain⟨b2,o2,rfl,h2⟩:=hb.at2 (fun _=>rfl) gy
  repeat' (first
   |(refine vl_pure rfl ?_)
   |(refine vl_nil ?_)
   |(refine VC.seq ?_)
   |(refine vl_idx rfl rfl (by omega) ?_)
   |(refine vl_lds rfl (by first|exact h1|exact h2) ?_)
   |(refine vl_q rfl (eqPair_q) ?_)
   |(refine VC.dregV ?_)
   |(refine VC.block ?_)
   |(refine VC.skip ?_)
   |(refine seqQ_n ?_))
  refine VC.cond _ rfl (fun h=>?_) (fun h=>?_)
  ·repeat' (first
    |(refine xw ?_)
    |(refine seqQ_r ?_)
    |(refine blkQ_r ?_)
    |(fail))
   refine fnQ_r rfl (Mem.le_refl _) (q_end ?_)
   have:xs≠ys:=fun e=>by subst e;rw[gx]at gy;cases gy;simp at h
   simp[this]
  ·have hxy:x=y:=by simpa using h
   repeat' (first
    |(refine xw ?_)
    |(refine seqQ_n ?_)
    |(fail))
   refine⟨_,i+1,_,?_,⟨rfl,rfl,rfl,trivial⟩,Mem.le_refl _,rfl,hi,rfl,?_⟩
   ·omega
   ·rw[List.take_add_one,List.take_add_one,hpre,gx,gy,hxy]
 ·have hi:¬i<xs.length:=by simpa using h
  repeat' (first
   |(refine xw ?_)
   |(fail))
  refine fnQ_r rfl (Mem.le_refl _) (q_end ?_)
  have hxy:xs=ys:=by
   have e:i=xs.length:=by omega
   subst e
   rw[List.take_of_length_le (by simp),List.take_of_length_le (by simp[hl])]at hpre
   exact hpre
  simp[hxy]
theorem eqIntS_q{M:Mem}{va vb:Value}{xs ys:List Int}(ha:Sl M 1 iv va xs)(hb:Sl M 1 iv vb ys):Qt Tryz.prog 49 [va,vb] M (.bool (decide (xs=ys))):=by
 obtain⟨aa,ca,ea⟩:=ha.len
 obtain⟨ab,cb,eb⟩:=hb.len
 refine fn49 (by simp) ?_
 subst ea;subst eb
 repeat' (first
  |(refine vl_pure rfl ?_)
  |(refine vl_nil ?_)
  |(refine VC.seq ?_)
  |(refine VC.regV ?_)
  |(refine seqQ_n ?_))
 refine VC.cond _ rfl (fun h=>?_) (fun h=>?_)
 ·repeat' (first
   |(refine xw ?_)
   |(refine seqQ_r ?_)
   |(fail))
  refine fnQ_r rfl (Mem.le_refl _) (q_end ?_)
  have:xs≠ys:=fun e=>by have e2:=congrArg List.length e;first|(simp only[List.length_map]at e2;simp[e2]at h)|(simp[e2]at h)
  simp[this]
 have hbd:=ha.bound
 have hl:xs.length=ys.length:=Int.ofNat_inj.1 (by simpa using h)
 repeat' (first
  |(refine vl_pure rfl ?_)
  |(refine vl_nil ?_)
  |(refine VC.seq ?_)
  |(refine VC.regV ?_)
  |(refine VC.block ?_)
  |(refine VC.skip ?_))
 refine VC.loop (α:=Nat) (fun i=>[(0,.v (.slice aa xs.length ca)),(1,.v (.slice ab ys.length cb)),(5,.v (.int .i64 i))]) (fun k i M'=>k=xs.length-i∧i≤xs.length∧M'=M∧xs.take i=ys.take i)
  ⟨_,0,M,⟨rfl,rfl,rfl,trivial⟩,Mem.le_refl _,rfl,Nat.zero_le _,rfl,by simp⟩ ?_
 rintro k i M' ⟨rfl,hi,rfl,hpre⟩
 repeat' (first
  |(refine vl_pure rfl ?_)
  |(refine vl_nil ?_)
  |(refine VC.seq ?_)
  |(refine VC.regV ?_)
  |(refine seqQ_n ?_))
 refine VC.cond _ rfl (fun h=>?_) (fun h=>?_)
 ·have hi:i<xs.length:=by simpa using h
  obtain⟨x,gx⟩:∃x,xs[i]?=some x:=⟨_,List.getElem?_eq_getElem hi⟩
  obtain⟨y,gy⟩:∃y,ys[i]?=some y:=⟨_,List.getElem?_eq_getElem (hl▸hi)⟩
  obtain⟨b1,o1,rfl,h1⟩:=ha.at2 (fun _=>rfl) gx
  obtain⟨b2,o2,rfl,h2⟩:=hb.at2 (fun _=>rfl) gy
  repeat' (first
   |(refine vl_pure rfl ?_)
   |(refine vl_ld rfl (by first|exact cells_cell h1 (j:=0) rfl|exact cells_cell h2 (j:=0) rfl) ?_)
   |(refine vl_nil ?_)
   |(refine VC.seq ?_)
   |(refine vl_idx rfl rfl (by omega) ?_)
   |(refine VC.dregV ?_)
   |(refine VC.block ?_)
   |(refine VC.skip ?_)
   |(refine seqQ_n ?_))
  refine VC.cond _ rfl (fun h=>?_) (fun h=>?_)
  ·repeat' (first
    |(refine xw ?_)
    |(refine seqQ_r ?_)
    |(refine blkQ_r ?_)
    |(fail))
   refine fnQ_r rfl (Mem.le_refl _) (q_end ?_)
   have:xs≠ys:=fun e=>by subst e;rw[gx]at gy;cases gy;simp at h
   simp[this]
  ·have hxy:x=y:=by simpa using h
   repeat' (first
    |(refine xw ?_)
    |(refine seqQ_n ?_)
    |(fail))
   refine⟨_,i+1,_,?_,⟨rfl,rfl,rfl,trivial⟩,Mem.le_refl _,rfl,hi,rfl,?_⟩
   ·omega
   ·rw[List.take_add_one,List.take_add_one,hpre,gx,gy,hxy]
 ·have hi:¬i<xs.length:=by simpa using h
  repeat' (first
   |(refine xw ?_)
   |(fail))
  refine fnQ_r rfl (Mem.le_refl _) (q_end ?_)
  have hxy:xs=ys:=by
   have e:i=xs.length:=by omega
   subst e
   rw[List.take_of_length_le (by simp),List.take_of_length_le (by simp[hl])]at hpre
   exact hpre
  simp[hxy]
theorem eqCell_q{M:Mem}{a b:CS}(ga:Sl M 6 pv a.s a.c.pairs)(gb:Sl M 6 pv b.s b.c.pairs):Qt Tryz.prog 86 [ca a,ca b] M (.bool (decide (a.c=b.c))):=by
 refine fn86 (by simp) ?_
 repeat' (first
  |(refine xw ?_)
  |(refine vl_cq rfl (eqPairS_q ga gb) ?_)
  |(refine seqQ_n ?_)
  |(refine seqQ_r ?_)
  |(refine VC.cond _ rfl (fun hb=>?_) (fun hb=>?_))
  |(fail))
 all_goals (refine fnQ_r rfl (Mem.le_refl _) (q_end ?_))
 all_goals (obtain⟨⟨⟩,_,_⟩:=a;obtain⟨⟨⟩,_,_⟩:=b;simp_all)
theorem eqCellS_q{M:Mem}{va vb:Value}{xs ys:List CS}(ha:Sl M 8 csv va xs)(hb:Sl M 8 csv vb ys)(hx:∀x,x∈xs→Sl M 6 pv x.s x.c.pairs)(hy:∀x,x∈ys→Sl M 6 pv x.s x.c.pairs):Qt Tryz.prog 48 [va,vb] M (.bool (decide (xs.map (·.c)=ys.map (·.c)))):=by
 obtain⟨aa,ca,ea⟩:=ha.len
 obtain⟨ab,cb,eb⟩:=hb.len
 refine fn48 (by simp) ?_
 subst ea;subst eb
 repeat' (first
  |(refine vl_pure rfl ?_)
  |(refine vl_nil ?_)
  |(refine VC.seq ?_)
  |(refine VC.regV ?_)
  |(refine seqQ_n ?_))
 refine VC.cond _ rfl (fun h=>?_) (fun h=>?_)
 ·repeat' (first
   |(refine xw ?_)
   |(refine seqQ_r ?_)
   |(fail))
  refine fnQ_r rfl (Mem.le_refl _) (q_end ?_)
  have:xs.map (·.c)≠ys.map (·.c):=fun e=>by have e2:=congrArg List.length e;first|(simp only[List.length_map]at e2;simp[e2]at h)|(simp[e2]at h)
  simp[this]
 have hbd:=ha.bound
 have hl:xs.length=ys.length:=Int.ofNat_inj.1 (by simpa using h)
 repeat' (first
  |(refine vl_pure rfl ?_)
  |(refine vl_nil ?_)
  |(refine VC.seq ?_)
  |(refine VC.regV ?_)
  |(refine VC.block ?_)
  |(refine VC.skip ?_))
 refine VC.loop (α:=Nat) (fun i=>[(0,.v (.slice aa xs.length ca)),(1,.v (.slice ab ys.length cb)),(5,.v (.int .i64 i))]) (fun k i M'=>k=xs.length-i∧i≤xs.length∧M'=M∧(xs.map (·.c)).take i=(ys.map (·.c)).take i)
  ⟨_,0,M,⟨rfl,rfl,rfl,trivial⟩,Mem.le_refl _,rfl,Nat.zero_le _,rfl,by simp⟩ ?_
 rintro k i M' ⟨rfl,hi,rfl,hpre⟩
 repeat' (first
  |(refine vl_pure rfl ?_)
  |(refine vl_nil ?_)
  |(refine VC.seq ?_)
  |(refine VC.regV ?_)
  |(refine seqQ_n ?_))
 refine VC.cond _ rfl (fun h=>?_) (fun h=>?_)
 ·have hi:i<xs.length:=by simpa using h
  obtain⟨x,gx⟩:∃x,xs[i]?=some x:=⟨_,List.getElem?_eq_getElem hi⟩
  obtain⟨y,gy⟩:∃y,ys[i]?=some y:=⟨_,List.getElem?_eq_getElem (hl▸hi)⟩
  obtain⟨b1,o1,rfl,h1⟩:=ha.at2 (fun _=>rfl) gx
  obtain⟨b2,o2,rfl,h2⟩:=hb.at2 (fun _=>rfl) gy
  repeat' (first
   |(refine vl_pure rfl ?_)
   |(refine vl_nil ?_)
   |(refine VC.seq ?_)
   |(refine vl_idx rfl rfl (by omega) ?_)
   |(refine vl_lds rfl (by first|exact h1|exact h2) ?_)
   |(refine vl_q rfl (eqCell_q (hx _ (List.mem_of_getElem? gx)) (hy _ (List.mem_of_getElem? gy))) ?_)
   |(refine VC.dregV ?_)
   |(refine VC.block ?_)
   |(refine VC.skip ?_)
   |(refine seqQ_n ?_))
  refine VC.cond _ rfl (fun h=>?_) (fun h=>?_)
  ·repeat' (first
    |(refine xw ?_)
    |(refine seqQ_r ?_)
    |(refine blkQ_r ?_)
    |(fail))
   refine fnQ_r rfl (Mem.le_refl _) (q_end ?_)
   have:xs.map (·.c)≠ys.map (·.c):=fun e=>by have e1:=congrArg (·[i]?) e;simp only[List.getElem?_map,gx,gy,Option.map_some,Option.some.injEq]at e1;simp[e1]at h
   simp[this]
  ·have hxy:x.c=y.c:=by simpa using h
   repeat' (first
    |(refine xw ?_)
    |(refine seqQ_n ?_)
    |(fail))
   refine⟨_,i+1,_,?_,⟨rfl,rfl,rfl,trivial⟩,Mem.le_refl _,rfl,hi,rfl,?_⟩
   ·omega
   ·rw[List.take_add_one,List.take_add_one,hpre,List.getElem?_map,List.getElem?_map,gx,gy,Option.map_some,Option.map_some,hxy]
 ·have hi:¬i<xs.length:=by simpa using h
  repeat' (first
   |(refine xw ?_)
   |(fail))
  refine fnQ_r rfl (Mem.le_refl _) (q_end ?_)
  have hxy:xs.map (·.c)=ys.map (·.c):=by
   have e:i=xs.length:=by omega
   subst e
   rw[List.take_of_length_le (by simp),List.take_of_length_le (by simp[hl])]at hpre
   exact hpre
  simp[hxy]
end Go.Proofs.YtpleoapljeffiaaGreatDoor.E
namespace Go.Proofs.YtpleoapljeffiaaGreatDoor.E
open Go
noncomputable def e35:Env:=⟨Tryz.prog,[],12,[]⟩
noncomputable def c35:C:=
 .seq (.reg [zC 4 0]) (.seq (.reg [z3 5 1,z3 6 0,zE 7 6,qF 8 5 7,z3 1 8]) (.seq (.seq (.reg [z3 9 1,zc 10 9 0]) (.cond (.tmp 10) (.seq (.reg [zC 4 (-1)]) .ret) .skip)) (.seq (.reg [z3 11 1,z3 4 11]) .ret)))
theorem t35:Tryz.f35.body.bind (trC e35)=some c35:=by kernel_rfl
theorem r35:Tryz.f35.results.toList.mapM (trR Tryz.prog)=some [.tmp 4]:=by kernel_rfl
theorem fn35{args:List Value}{M:Mem}{post:Value→Mem→Prop}(hl:args.length≤12)(h:VC e35 c35 (fnQ [.tmp 4] post) (initS args 12) M):Fn Tryz.prog 35 args M post:=
 Fn.of' (E:=e35) Tryz.func35 t35 rfl r35 mixed hl h
noncomputable def e107:Env:=⟨Tryz.prog,[],12,[]⟩
noncomputable def c107:C:=
 .seq (.reg [zC 4 0]) (.seq (.reg [z3 5 1,z3 6 0,zE 7 6,qF 8 5 7,z3 1 8]) (.seq (.seq (.reg [z3 9 1,zc 10 9 0]) (.cond (.tmp 10) (.seq (.reg [zC 4 (-1)]) .ret) .skip)) (.seq (.reg [z3 11 1,z3 4 11]) .ret)))
theorem t107:Tryz.f107.body.bind (trC e107)=some c107:=by kernel_rfl
theorem r107:Tryz.f107.results.toList.mapM (trR Tryz.prog)=some [.tmp 4]:=by kernel_rfl
theorem fn107{args:List Value}{M:Mem}{post:Value→Mem→Prop}(hl:args.length≤12)(h:VC e107 c107 (fnQ [.tmp 4] post) (initS args 12) M):Fn Tryz.prog 107 args M post:=
 Fn.of' (E:=e107) Tryz.func107 t107 rfl r107 mixed hl h
noncomputable def e70:Env:=⟨Tryz.prog,[2],12,[]⟩
noncomputable def c70:C:=
 .seq (.reg [zT 2 0,zC 4 0]) (.seq (.reg [z4 5 7 2,z5 6 1 5,z3 7 1,zL 8 107 6 7,z3 1 8]) (.seq (.seq (.reg [z3 9 1,zc 10 9 0]) (.cond (.tmp 10) (.seq (.reg [zC 4 (-1)]) .ret) .skip)) (.seq (.reg [z3 11 1,z3 4 11]) .ret)))
theorem t70:Tryz.f70.body.bind (trC e70)=some c70:=by kernel_rfl
theorem r70:Tryz.f70.results.toList.mapM (trR Tryz.prog)=some [.tmp 4]:=by kernel_rfl
theorem fn70{args:List Value}{M:Mem}{post:Value→Mem→Prop}(hl:args.length≤12)(h:VC e70 c70 (fnQ [.tmp 4] post) (initS args 12) M):Fn Tryz.prog 70 args M post:=
 Fn.of' (E:=e70) Tryz.func70 t70 rfl r70 mixed hl h
noncomputable def e36:Env:=⟨Tryz.prog,[],27,[]⟩
noncomputable def c36:C:=
 .seq (.reg [zC 4 0]) (.seq (.reg [z3 6 1,z3 7 0,zE 8 7,qF 9 6 8,z3 1 9]) (.seq (.seq (.reg [z3 10 1,zc 11 10 0]) (.cond (.tmp 11) (.seq (.reg [zC 4 (-1)]) .ret) .skip)) (.seq (.seq (.reg [zC 5 0]) (.block 0 (.loop (.seq (.seq (.reg [z3 12 5,z3 13 0,zE 14 13,zN 15 12 14]) (.cond (.tmp 15) .skip (.exit 0))) (.seq (.block 1 (.seq (.reg [z3 18 0,z3 19 5,z8 20 8 18 19,z9 21 8 20,z3 22 1,zL 23
 70 21 22,z3 1 23]) (.seq (.reg [z3 24 1,zc 25 24 0]) (.cond (.tmp 25) (.seq (.reg [zC 4 (-1)]) .ret) .skip)))) (.reg [z3 16 5,zG 17 16 1,z3 5 17])))))) (.seq (.reg [z3 26 1,z3 4 26]) .ret))))
theorem t36:Tryz.f36.body.bind (trC e36)=some c36:=by kernel_rfl
theorem r36:Tryz.f36.results.toList.mapM (trR Tryz.prog)=some [.tmp 4]:=by kernel_rfl
theorem fn36{args:List Value}{M:Mem}{post:Value→Mem→Prop}(hl:args.length≤27)(h:VC e36 c36 (fnQ [.tmp 4] post) (initS args 27) M):Fn Tryz.prog 36 args M post:=
 Fn.of' (E:=e36) Tryz.func36 t36 rfl r36 mixed hl h
noncomputable def e37:Env:=⟨Tryz.prog,[],12,[]⟩
noncomputable def c37:C:=
 .seq (.reg [zC 4 0]) (.seq (.reg [z3 5 1,z3 6 0,zE 7 6,qF 8 5 7,z3 1 8]) (.seq (.seq (.reg [z3 9 1,zc 10 9 0]) (.cond (.tmp 10) (.seq (.reg [zC 4 (-1)]) .ret) .skip)) (.seq (.reg [z3 11 1,z3 4 11]) .ret)))
theorem t37:Tryz.f37.body.bind (trC e37)=some c37:=by kernel_rfl
theorem r37:Tryz.f37.results.toList.mapM (trR Tryz.prog)=some [.tmp 4]:=by kernel_rfl
theorem fn37{args:List Value}{M:Mem}{post:Value→Mem→Prop}(hl:args.length≤12)(h:VC e37 c37 (fnQ [.tmp 4] post) (initS args 12) M):Fn Tryz.prog 37 args M post:=
 Fn.of' (E:=e37) Tryz.func37 t37 rfl r37 mixed hl h
noncomputable def e14:Env:=⟨Tryz.prog,[2],24,[]⟩
noncomputable def c14:C:=
 .seq (.reg [zT 2 0,zC 4 0]) (.seq (.reg [z4 5 3 2,z5 6 1 5,z3 7 1,zL 8 35 6 7,z3 1 8]) (.seq (.seq (.reg [z3 9 1,zc 10 9 0]) (.cond (.tmp 10) (.seq (.reg [zC 4 (-1)]) .ret) .skip)) (.seq (.reg [z4 11 4 2,z5 12 1 11,z3 13 1,zL 14 36 12 13,z3 1 14]) (.seq (.seq (.reg [z3 15 1,zc 16 15 0]) (.cond (.tmp 16) (.seq (.reg [zC 4 (-1)]) .ret) .skip)) (.seq (.reg [z4 17 8 2,z5 18 1 17,z3 19 1,zL 20
 37 18 19,z3 1 20]) (.seq (.seq (.reg [z3 21 1,zc 22 21 0]) (.cond (.tmp 22) (.seq (.reg [zC 4 (-1)]) .ret) .skip)) (.seq (.reg [z3 23 1,z3 4 23]) .ret)))))))
theorem t14:Tryz.f14.body.bind (trC e14)=some c14:=by kernel_rfl
theorem r14:Tryz.f14.results.toList.mapM (trR Tryz.prog)=some [.tmp 4]:=by kernel_rfl
theorem fn14{args:List Value}{M:Mem}{post:Value→Mem→Prop}(hl:args.length≤24)(h:VC e14 c14 (fnQ [.tmp 4] post) (initS args 24) M):Fn Tryz.prog 14 args M post:=
 Fn.of' (E:=e14) Tryz.func14 t14 rfl r14 mixed hl h
noncomputable def e79:Env:=⟨Tryz.prog,[1,2,3],14,[]⟩
noncomputable def c79:C:=
 .seq (.reg [zT 1 0,zk 2 0 0 0]) (.seq (.reg [zk 3 0 0 0]) (.seq (.reg [z4 4 0 1,z5 5 1 4,z4 6 0 3,z7 1 6 5]) (.seq (.reg [z4 7 1 1,z5 8 1 7,z4 9 1 3,z7 1 9 8]) (.seq (.reg [z4 10 2 1,z5 11 1 10,z4 12 2 3,z7 1 12 11]) (.seq (.reg [z9 13 3 3,z7 3 2 13]) .ret)))))
theorem t79:Tryz.f79.body.bind (trC e79)=some c79:=by kernel_rfl
theorem r79:Tryz.f79.results.toList.mapM (trR Tryz.prog)=some [.cell 2 false 3]:=by kernel_rfl
theorem fn79{args:List Value}{M:Mem}{post:Value→Mem→Prop}(hl:args.length≤14)(h:VC e79 c79 (fnQ [.cell 2 false 3] post) (initS args 14) M):Fn Tryz.prog 79 args M post:=
 Fn.of' (E:=e79) Tryz.func79 t79 rfl r79 mixed hl h
noncomputable def e40:Env:=⟨Tryz.prog,[],23,[]⟩
noncomputable def c40:C:=
 .seq (.reg [zx 2 0 0]) (.seq (.reg [z3 5 0,zE 6 5,⟨some 7,none,.mkslice 3 24 [.int .i64 0,.int .i64 0,.int .i64 0] (.tmp 6) (.tmp 6)⟩,z3 3 7]) (.seq (.seq (.reg [zC 4 0]) (.block 0 (.loop (.seq (.seq (.reg [z3 8 4,z3 9 0,zE 10 9,zN 11 8 10]) (.cond (.tmp 11) .skip (.exit 0))) (.seq (.block 1 (.reg [z3 14 3,z3 15 4,z3 16 0,z3 17 4,z8 18 3 16 17,z9 19 3 18,zM 20 79 19,z8 21 3 14 15,z7 3 21
 20])) (.reg [z3 12 4,zG 13 12 1,z3 4 13])))))) (.seq (.reg [z3 22 3,z3 2 22]) .ret)))
theorem t40:Tryz.f40.body.bind (trC e40)=some c40:=by kernel_rfl
theorem r40:Tryz.f40.results.toList.mapM (trR Tryz.prog)=some [.tmp 2]:=by kernel_rfl
theorem fn40{args:List Value}{M:Mem}{post:Value→Mem→Prop}(hl:args.length≤23)(h:VC e40 c40 (fnQ [.tmp 2] post) (initS args 23) M):Fn Tryz.prog 40 args M post:=
 Fn.of' (E:=e40) Tryz.func40 t40 rfl r40 mixed hl h
noncomputable def e142:Env:=⟨Tryz.prog,[1,2,3],13,[]⟩
noncomputable def c142:C:=
 .seq (.reg [zT 1 0,zp 2 0 0 0 0 0 0]) (.seq (.reg [zp 3 0 0 0 0 0 0]) (.seq (.reg [z4 4 0 1,z9 5 3 4,zM 6 79 5,z4 7 0 3,z7 3 7 6]) (.seq (.reg [z4 8 3 1,z9 9 3 8,zM 10 79 9,z4 11 3 3,z7 3 11 10]) (.seq (.reg [z9 12 6 3,z7 6 2 12]) .ret))))
theorem t142:Tryz.f142.body.bind (trC e142)=some c142:=by kernel_rfl
theorem r142:Tryz.f142.results.toList.mapM (trR Tryz.prog)=some [.cell 2 false 6]:=by kernel_rfl
theorem fn142{args:List Value}{M:Mem}{post:Value→Mem→Prop}(hl:args.length≤13)(h:VC e142 c142 (fnQ [.cell 2 false 6] post) (initS args 13) M):Fn Tryz.prog 142 args M post:=
 Fn.of' (E:=e142) Tryz.func142 t142 rfl r142 mixed hl h
noncomputable def e115:Env:=⟨Tryz.prog,[],23,[]⟩
noncomputable def c115:C:=
 .seq (.reg [zx 2 0 0]) (.seq (.reg [z3 5 0,zE 6 5,qj 7 6 48 0 0 0 0 0 0 6 6,z3 3 7]) (.seq (.seq (.reg [zC 4 0]) (.block 0 (.loop (.seq (.seq (.reg [z3 8 4,z3 9 0,zE 10 9,zN 11 8 10]) (.cond (.tmp 11) .skip (.exit 0))) (.seq (.block 1 (.reg [z3 14 3,z3 15 4,z3 16 0,z3 17 4,z8 18 6 16 17,z9 19 6 18,zM 20 142 19,z8 21 6 14 15,z7 6 21 20])) (.reg [z3 12 4,zG 13 12 1,z3 4 13])))))) (.seq (.reg
 [z3 22 3,z3 2 22]) .ret)))
theorem t115:Tryz.f115.body.bind (trC e115)=some c115:=by kernel_rfl
theorem r115:Tryz.f115.results.toList.mapM (trR Tryz.prog)=some [.tmp 2]:=by kernel_rfl
theorem fn115{args:List Value}{M:Mem}{post:Value→Mem→Prop}(hl:args.length≤23)(h:VC e115 c115 (fnQ [.tmp 2] post) (initS args 23) M):Fn Tryz.prog 115 args M post:=
 Fn.of' (E:=e115) Tryz.func115 t115 rfl r115 mixed hl h
noncomputable def e80:Env:=⟨Tryz.prog,[1,2,3],30,[]⟩
noncomputable def c80:C:=
 .seq (.reg [zT 1 0,zX 2 0 0 0 0 0 0 0 0 0]) (.seq (.reg [zX 3 0 0 0 0 0 0 0 0 0]) (.seq (.reg [z4 4 0 1,z5 5 1 4,z4 6 0 3,z7 1 6 5]) (.seq (.reg [z4 7 1 1,z5 8 1 7,z4 9 1 3,z7 1 9 8]) (.seq (.reg [z4 10 2 1,z5 11 1 10,z4 12 2 3,z7 1 12 11]) (.seq (.reg [z4 13 3 1,z5 14 1 13,z4 15 3 3,z7 1 15 14]) (.seq (.reg [z4 16 4 1,z5 17 1 16,z4 18 4 3,z7 1 18 17]) (.seq (.reg [z4 19 5 1,z5 20 1 19,z4
 21 5 3,z7 1 21 20]) (.seq (.reg [z4 22 6 1,z5 23 1 22,z4 24 6 3,z7 1 24 23]) (.seq (.reg [z4 25 7 1,z5 26 1 25,zM 27 115 26,z4 28 7 3,z7 1 28 27]) (.seq (.reg [z9 29 8 3,z7 8 2 29]) .ret))))))))))
theorem t80:Tryz.f80.body.bind (trC e80)=some c80:=by kernel_rfl
theorem r80:Tryz.f80.results.toList.mapM (trR Tryz.prog)=some [.cell 2 false 8]:=by kernel_rfl
theorem fn80{args:List Value}{M:Mem}{post:Value→Mem→Prop}(hl:args.length≤30)(h:VC e80 c80 (fnQ [.cell 2 false 8] post) (initS args 30) M):Fn Tryz.prog 80 args M post:=
 Fn.of' (E:=e80) Tryz.func80 t80 rfl r80 mixed hl h
noncomputable def e41:Env:=⟨Tryz.prog,[],23,[]⟩
noncomputable def c41:C:=
 .seq (.reg [zx 2 0 0]) (.seq (.reg [z3 5 0,zE 6 5,⟨some 7,none,.mkslice 8 80 [.int .i64 0,.int .i64 0,.int .i64 0,.int .i64 0,.int .i64 0,.int .i64 0,.int .i64 0,.slice none 0 0] (.tmp 6) (.tmp 6)⟩,z3 3 7]) (.seq (.seq (.reg [zC 4 0]) (.block 0 (.loop (.seq (.seq (.reg [z3 8 4,z3 9 0,zE 10 9,zN 11 8 10]) (.cond (.tmp 11) .skip (.exit 0))) (.seq (.block 1 (.reg [z3 14 3,z3 15 4,z3 16 0,z3 17
 4,z8 18 8 16 17,z9 19 8 18,zM 20 80 19,z8 21 8 14 15,z7 8 21 20])) (.reg [z3 12 4,zG 13 12 1,z3 4 13])))))) (.seq (.reg [z3 22 3,z3 2 22]) .ret)))
theorem t41:Tryz.f41.body.bind (trC e41)=some c41:=by kernel_rfl
theorem r41:Tryz.f41.results.toList.mapM (trR Tryz.prog)=some [.tmp 2]:=by kernel_rfl
theorem fn41{args:List Value}{M:Mem}{post:Value→Mem→Prop}(hl:args.length≤23)(h:VC e41 c41 (fnQ [.tmp 2] post) (initS args 23) M):Fn Tryz.prog 41 args M post:=
 Fn.of' (E:=e41) Tryz.func41 t41 rfl r41 mixed hl h
noncomputable def e42:Env:=⟨Tryz.prog,[],22,[]⟩
noncomputable def c42:C:=
 .seq (.reg [zx 2 0 0]) (.seq (.reg [z3 5 0,zE 6 5,⟨some 7,none,.mkslice 1 8 [.int .i64 0] (.tmp 6) (.tmp 6)⟩,z3 3 7]) (.seq (.seq (.reg [zC 4 0]) (.block 0 (.loop (.seq (.seq (.reg [z3 8 4,z3 9 0,zE 10 9,zN 11 8 10]) (.cond (.tmp 11) .skip (.exit 0))) (.seq (.block 1 (.reg [z3 14 3,z3 15 4,z3 16 0,z3 17 4,z8 18 1 16 17,z5 19 1 18,z8 20 1 14 15,z7 1 20 19])) (.reg [z3 12 4,zG 13 12 1,z3 4
 13])))))) (.seq (.reg [z3 21 3,z3 2 21]) .ret)))
theorem t42:Tryz.f42.body.bind (trC e42)=some c42:=by kernel_rfl
theorem r42:Tryz.f42.results.toList.mapM (trR Tryz.prog)=some [.tmp 2]:=by kernel_rfl
theorem fn42{args:List Value}{M:Mem}{post:Value→Mem→Prop}(hl:args.length≤22)(h:VC e42 c42 (fnQ [.tmp 2] post) (initS args 22) M):Fn Tryz.prog 42 args M post:=
 Fn.of' (E:=e42) Tryz.func42 t42 rfl r42 mixed hl h
noncomputable def e16:Env:=⟨Tryz.prog,[1,2,3],47,[]⟩
noncomputable def c16:C:=
 .seq (.reg [zT 1 0,j5 2 0 0 0 0 0 0 0 0 0 0 0 0 0 0 0 0]) (.seq (.reg [j5 3 0 0 0 0 0 0 0 0 0 0 0 0 0 0 0 0]) (.seq (.reg [z4 4 0 1,z5 5 1 4,z4 6 0 3,z7 1 6 5]) (.seq (.reg [z4 7 1 1,z5 8 1 7,z4 9 1 3,z7 1 9 8]) (.seq (.reg [z4 10 2 1,z5 11 1 10,z4 12 2 3,z7 1 12 11]) (.seq (.reg [z4 13 3 1,z5 14 1 13,zM 15 40 14,z4 16 3 3,z7 1 16 15]) (.seq (.reg [z4 17 4 1,z5 18 1 17,zM 19 41 18,z4 20 4
 3,z7 1 20 19]) (.seq (.reg [z4 21 5 1,z5 22 1 21,z4 23 5 3,z7 1 23 22]) (.seq (.reg [z4 24 6 1,z5 25 1 24,z4 26 6 3,z7 1 26 25]) (.seq (.reg [z4 27 7 1,z5 28 1 27,z4 29 7 3,z7 1 29 28]) (.seq (.reg [z4 30 8 1,z5 31 1 30,zM 32 42 31,z4 33 8 3,z7 1 33 32]) (.seq (.reg [z4 34 9 1,z5 35 1 34,z4 36 9 3,z7 1 36 35]) (.seq (.reg [z4 37 10 1,z5 38 1 37,z4 39 10 3,z7 1 39 38]) (.seq (.reg [z4 40 11
 1,z5 41 1 40,z4 42 11 3,z7 1 42 41]) (.seq (.reg [z4 43 12 1,z5 44 1 43,z4 45 12 3,z7 1 45 44]) (.seq (.reg [z9 46 13 3,z7 13 2 46]) .ret)))))))))))))))
theorem t16:Tryz.f16.body.bind (trC e16)=some c16:=by kernel_rfl
theorem r16:Tryz.f16.results.toList.mapM (trR Tryz.prog)=some [.cell 2 false 13]:=by kernel_rfl
theorem fn16{args:List Value}{M:Mem}{post:Value→Mem→Prop}(hl:args.length≤47)(h:VC e16 c16 (fnQ [.cell 2 false 13] post) (initS args 47) M):Fn Tryz.prog 16 args M post:=
 Fn.of' (E:=e16) Tryz.func16 t16 rfl r16 mixed hl h
noncomputable def e50:Env:=⟨Tryz.prog,[],34,[]⟩
noncomputable def c50:C:=
 .seq (.reg [zC 4 0]) (.seq (.seq (.reg [zC 5 0]) (.block 0 (.loop (.seq (.seq (.reg [z3 6 5,z3 7 0,zE 8 7,zN 9 6 8]) (.cond (.tmp 9) .skip (.exit 0))) (.seq (.block 1 (.seq (.reg [z3 12 0,z3 13 5,z3 14 1,z8 15 3 12 13,z4 16 0 15,z7 1 16 14]) (.seq (.reg [z3 17 1,zG 18 17 1,z3 1 18]) (.seq (.reg [z3 19 0,z3 20 5,z3 21 1,z8 22 3 19 20,z4 23 1 22,z7 1 23 21]) (.seq (.reg [z3 24 1,zG 25 24 1,
 z3 1 25]) (.seq (.reg [z3 26 0,z3 27 5,z3 28 1,z8 29 3 26 27,z4 30 2 29,z7 1 30 28]) (.reg [z3 31 1,zG 32 31 1,z3 1 32]))))))) (.reg [z3 10 5,zG 11 10 1,z3 5 11])))))) (.seq (.reg [z3 33 1,z3 4 33]) .ret))
theorem t50:Tryz.f50.body.bind (trC e50)=some c50:=by kernel_rfl
theorem r50:Tryz.f50.results.toList.mapM (trR Tryz.prog)=some [.tmp 4]:=by kernel_rfl
theorem fn50{args:List Value}{M:Mem}{post:Value→Mem→Prop}(hl:args.length≤34)(h:VC e50 c50 (fnQ [.tmp 4] post) (initS args 34) M):Fn Tryz.prog 50 args M post:=
 Fn.of' (E:=e50) Tryz.func50 t50 rfl r50 mixed hl h
noncomputable def e67:Env:=⟨Tryz.prog,[],40,[]⟩
noncomputable def c67:C:=
 .seq (.reg [zC 4 0]) (.seq (.seq (.reg [zC 5 0]) (.block 0 (.loop (.seq (.seq (.reg [z3 6 5,z3 7 0,zE 8 7,zN 9 6 8]) (.cond (.tmp 9) .skip (.exit 0))) (.seq (.block 1 (.seq (.seq (.reg [z3 12 0,z3 13 5,z8 14 3 12 13,z4 15 0 14,z5 16 1 15,z3 17 1,zW 18 16 17]) (.cond (.tmp 18) (.seq (.reg [zC 4 (-1)]) .ret) .skip)) (.seq (.reg [z3 19 1,zG 20 19 1,z3 1 20]) (.seq (.seq (.reg [z3 21 0,z3 22 5,
 z8 23 3 21 22,z4 24 1 23,z5 25 1 24,z3 26 1,zW 27 25 26]) (.cond (.tmp 27) (.seq (.reg [zC 4 (-1)]) .ret) .skip)) (.seq (.reg [z3 28 1,zG 29 28 1,z3 1 29]) (.seq (.seq (.reg [z3 30 0,z3 31 5,z8 32 3 30 31,z4 33 2 32,z5 34 1 33,z3 35 1,zW 36 34 35]) (.cond (.tmp 36) (.seq (.reg [zC 4 (-1)]) .ret) .skip)) (.reg [z3 37 1,zG 38 37 1,z3 1 38]))))))) (.reg [z3 10 5,zG 11 10 1,z3 5 11])))))) (.seq
 (.reg [z3 39 1,z3 4 39]) .ret))
theorem t67:Tryz.f67.body.bind (trC e67)=some c67:=by kernel_rfl
theorem r67:Tryz.f67.results.toList.mapM (trR Tryz.prog)=some [.tmp 4]:=by kernel_rfl
theorem fn67{args:List Value}{M:Mem}{post:Value→Mem→Prop}(hl:args.length≤40)(h:VC e67 c67 (fnQ [.tmp 4] post) (initS args 40) M):Fn Tryz.prog 67 args M post:=
 Fn.of' (E:=e67) Tryz.func67 t67 rfl r67 mixed hl h
noncomputable def e87:Env:=⟨Tryz.prog,[],61,[]⟩
noncomputable def c87:C:=
 .seq (.reg [zC 4 0]) (.seq (.seq (.reg [zC 5 0]) (.block 0 (.loop (.seq (.seq (.reg [z3 6 5,z3 7 0,zE 8 7,zN 9 6 8]) (.cond (.tmp 9) .skip (.exit 0))) (.seq (.block 1 (.seq (.reg [z3 12 0,z3 13 5,z3 14 1,z8 15 6 12 13,z4 16 0 15,z4 17 0 16,z7 1 17 14]) (.seq (.reg [z3 18 1,zG 19 18 1,z3 1 19]) (.seq (.reg [z3 20 0,z3 21 5,z3 22 1,z8 23 6 20 21,z4 24 0 23,z4 25 1 24,z7 1 25 22]) (.seq (.reg
 [z3 26 1,zG 27 26 1,z3 1 27]) (.seq (.reg [z3 28 0,z3 29 5,z3 30 1,z8 31 6 28 29,z4 32 0 31,z4 33 2 32,z7 1 33 30]) (.seq (.reg [z3 34 1,zG 35 34 1,z3 1 35]) (.seq (.reg [z3 36 0,z3 37 5,z3 38 1,z8 39 6 36 37,z4 40 3 39,z4 41 0 40,z7 1 41 38]) (.seq (.reg [z3 42 1,zG 43 42 1,z3 1 43]) (.seq (.reg [z3 44 0,z3 45 5,z3 46 1,z8 47 6 44 45,z4 48 3 47,z4 49 1 48,z7 1 49 46]) (.seq (.reg [z3 50 1,
 zG 51 50 1,z3 1 51]) (.seq (.reg [z3 52 0,z3 53 5,z3 54 1,z8 55 6 52 53,z4 56 3 55,z4 57 2 56,z7 1 57 54]) (.reg [z3 58 1,zG 59 58 1,z3 1 59]))))))))))))) (.reg [z3 10 5,zG 11 10 1,z3 5 11])))))) (.seq (.reg [z3 60 1,z3 4 60]) .ret))
theorem t87:Tryz.f87.body.bind (trC e87)=some c87:=by kernel_rfl
theorem r87:Tryz.f87.results.toList.mapM (trR Tryz.prog)=some [.tmp 4]:=by kernel_rfl
theorem fn87{args:List Value}{M:Mem}{post:Value→Mem→Prop}(hl:args.length≤61)(h:VC e87 c87 (fnQ [.tmp 4] post) (initS args 61) M):Fn Tryz.prog 87 args M post:=
 Fn.of' (E:=e87) Tryz.func87 t87 rfl r87 mixed hl h
noncomputable def e106:Env:=⟨Tryz.prog,[],73,[]⟩
noncomputable def c106:C:=
 .seq (.reg [zC 4 0]) (.seq (.seq (.reg [zC 5 0]) (.block 0 (.loop (.seq (.seq (.reg [z3 6 5,z3 7 0,zE 8 7,zN 9 6 8]) (.cond (.tmp 9) .skip (.exit 0))) (.seq (.block 1 (.seq (.seq (.reg [z3 12 0,z3 13 5,z8 14 6 12 13,z4 15 0 14,z4 16 0 15,z5 17 1 16,z3 18 1,zW 19 17 18]) (.cond (.tmp 19) (.seq (.reg [zC 4 (-1)]) .ret) .skip)) (.seq (.reg [z3 20 1,zG 21 20 1,z3 1 21]) (.seq (.seq (.reg [z3
 22 0,z3 23 5,z8 24 6 22 23,z4 25 0 24,z4 26 1 25,z5 27 1 26,z3 28 1,zW 29 27 28]) (.cond (.tmp 29) (.seq (.reg [zC 4 (-1)]) .ret) .skip)) (.seq (.reg [z3 30 1,zG 31 30 1,z3 1 31]) (.seq (.seq (.reg [z3 32 0,z3 33 5,z8 34 6 32 33,z4 35 0 34,z4 36 2 35,z5 37 1 36,z3 38 1,zW 39 37 38]) (.cond (.tmp 39) (.seq (.reg [zC 4 (-1)]) .ret) .skip)) (.seq (.reg [z3 40 1,zG 41 40 1,z3 1 41]) (.seq (.seq
 (.reg [z3 42 0,z3 43 5,z8 44 6 42 43,z4 45 3 44,z4 46 0 45,z5 47 1 46,z3 48 1,zW 49 47 48]) (.cond (.tmp 49) (.seq (.reg [zC 4 (-1)]) .ret) .skip)) (.seq (.reg [z3 50 1,zG 51 50 1,z3 1 51]) (.seq (.seq (.reg [z3 52 0,z3 53 5,z8 54 6 52 53,z4 55 3 54,z4 56 1 55,z5 57 1 56,z3 58 1,zW 59 57 58]) (.cond (.tmp 59) (.seq (.reg [zC 4 (-1)]) .ret) .skip)) (.seq (.reg [z3 60 1,zG 61 60 1,z3 1 61])
 (.seq (.seq (.reg [z3 62 0,z3 63 5,z8 64 6 62 63,z4 65 3 64,z4 66 2 65,z5 67 1 66,z3 68 1,zW 69 67 68]) (.cond (.tmp 69) (.seq (.reg [zC 4 (-1)]) .ret) .skip)) (.reg [z3 70 1,zG 71 70 1,z3 1 71]))))))))))))) (.reg [z3 10 5,zG 11 10 1,z3 5 11])))))) (.seq (.reg [z3 72 1,z3 4 72]) .ret))
theorem t106:Tryz.f106.body.bind (trC e106)=some c106:=by kernel_rfl
theorem r106:Tryz.f106.results.toList.mapM (trR Tryz.prog)=some [.tmp 4]:=by kernel_rfl
theorem fn106{args:List Value}{M:Mem}{post:Value→Mem→Prop}(hl:args.length≤73)(h:VC e106 c106 (fnQ [.tmp 4] post) (initS args 73) M):Fn Tryz.prog 106 args M post:=
 Fn.of' (E:=e106) Tryz.func106 t106 rfl r106 mixed hl h
noncomputable def e51:Env:=⟨Tryz.prog,[],69,[]⟩
noncomputable def c51:C:=
 .seq (.reg [zC 4 0]) (.seq (.seq (.reg [zC 5 0]) (.block 0 (.loop (.seq (.seq (.reg [z3 6 5,z3 7 0,zE 8 7,zN 9 6 8]) (.cond (.tmp 9) .skip (.exit 0))) (.seq (.block 1 (.seq (.reg [z3 12 0,z3 13 5,z3 14 1,z8 15 8 12 13,z4 16 0 15,z7 1 16 14]) (.seq (.reg [z3 17 1,zG 18 17 1,z3 1 18]) (.seq (.reg [z3 19 0,z3 20 5,z3 21 1,z8 22 8 19 20,z4 23 1 22,z7 1 23 21]) (.seq (.reg [z3 24 1,zG 25 24 1,
 z3 1 25]) (.seq (.reg [z3 26 0,z3 27 5,z3 28 1,z8 29 8 26 27,z4 30 2 29,z7 1 30 28]) (.seq (.reg [z3 31 1,zG 32 31 1,z3 1 32]) (.seq (.reg [z3 33 0,z3 34 5,z3 35 1,z8 36 8 33 34,z4 37 3 36,z7 1 37 35]) (.seq (.reg [z3 38 1,zG 39 38 1,z3 1 39]) (.seq (.reg [z3 40 0,z3 41 5,z3 42 1,z8 43 8 40 41,z4 44 4 43,z7 1 44 42]) (.seq (.reg [z3 45 1,zG 46 45 1,z3 1 46]) (.seq (.reg [z3 47 0,z3 48 5,z3
 49 1,z8 50 8 47 48,z4 51 5 50,z7 1 51 49]) (.seq (.reg [z3 52 1,zG 53 52 1,z3 1 53]) (.seq (.reg [z3 54 0,z3 55 5,z3 56 1,z8 57 8 54 55,z4 58 6 57,z7 1 58 56]) (.seq (.reg [z3 59 1,zG 60 59 1,z3 1 60]) (.reg [z3 61 0,z3 62 5,z8 63 8 61 62,z4 64 7 63,z5 65 1 64,z3 66 1,zL 67 87 65 66,z3 1 67])))))))))))))))) (.reg [z3 10 5,zG 11 10 1,z3 5 11])))))) (.seq (.reg [z3 68 1,z3 4 68]) .ret))
theorem t51:Tryz.f51.body.bind (trC e51)=some c51:=by kernel_rfl
theorem r51:Tryz.f51.results.toList.mapM (trR Tryz.prog)=some [.tmp 4]:=by kernel_rfl
theorem fn51{args:List Value}{M:Mem}{post:Value→Mem→Prop}(hl:args.length≤69)(h:VC e51 c51 (fnQ [.tmp 4] post) (initS args 69) M):Fn Tryz.prog 51 args M post:=
 Fn.of' (E:=e51) Tryz.func51 t51 rfl r51 mixed hl h
noncomputable def e68:Env:=⟨Tryz.prog,[],85,[]⟩
noncomputable def c68:C:=
 .seq (.reg [zC 4 0]) (.seq (.seq (.reg [zC 5 0]) (.block 0 (.loop (.seq (.seq (.reg [z3 6 5,z3 7 0,zE 8 7,zN 9 6 8]) (.cond (.tmp 9) .skip (.exit 0))) (.seq (.block 1 (.seq (.seq (.reg [z3 12 0,z3 13 5,z8 14 8 12 13,z4 15 0 14,z5 16 1 15,z3 17 1,zW 18 16 17]) (.cond (.tmp 18) (.seq (.reg [zC 4 (-1)]) .ret) .skip)) (.seq (.reg [z3 19 1,zG 20 19 1,z3 1 20]) (.seq (.seq (.reg [z3 21 0,z3 22 5,
 z8 23 8 21 22,z4 24 1 23,z5 25 1 24,z3 26 1,zW 27 25 26]) (.cond (.tmp 27) (.seq (.reg [zC 4 (-1)]) .ret) .skip)) (.seq (.reg [z3 28 1,zG 29 28 1,z3 1 29]) (.seq (.seq (.reg [z3 30 0,z3 31 5,z8 32 8 30 31,z4 33 2 32,z5 34 1 33,z3 35 1,zW 36 34 35]) (.cond (.tmp 36) (.seq (.reg [zC 4 (-1)]) .ret) .skip)) (.seq (.reg [z3 37 1,zG 38 37 1,z3 1 38]) (.seq (.seq (.reg [z3 39 0,z3 40 5,z8 41 8 39
 40,z4 42 3 41,z5 43 1 42,z3 44 1,zW 45 43 44]) (.cond (.tmp 45) (.seq (.reg [zC 4 (-1)]) .ret) .skip)) (.seq (.reg [z3 46 1,zG 47 46 1,z3 1 47]) (.seq (.seq (.reg [z3 48 0,z3 49 5,z8 50 8 48 49,z4 51 4 50,z5 52 1 51,z3 53 1,zW 54 52 53]) (.cond (.tmp 54) (.seq (.reg [zC 4 (-1)]) .ret) .skip)) (.seq (.reg [z3 55 1,zG 56 55 1,z3 1 56]) (.seq (.seq (.reg [z3 57 0,z3 58 5,z8 59 8 57 58,z4 60 5
 59,z5 61 1 60,z3 62 1,zW 63 61 62]) (.cond (.tmp 63) (.seq (.reg [zC 4 (-1)]) .ret) .skip)) (.seq (.reg [z3 64 1,zG 65 64 1,z3 1 65]) (.seq (.seq (.reg [z3 66 0,z3 67 5,z8 68 8 66 67,z4 69 6 68,z5 70 1 69,z3 71 1,zW 72 70 71]) (.cond (.tmp 72) (.seq (.reg [zC 4 (-1)]) .ret) .skip)) (.seq (.reg [z3 73 1,zG 74 73 1,z3 1 74]) (.seq (.reg [z3 75 0,z3 76 5,z8 77 8 75 76,z4 78 7 77,z5 79 1 78,z3
 80 1,zL 81 106 79 80,z3 1 81]) (.seq (.reg [z3 82 1,zc 83 82 0]) (.cond (.tmp 83) (.seq (.reg [zC 4 (-1)]) .ret) .skip)))))))))))))))))) (.reg [z3 10 5,zG 11 10 1,z3 5 11])))))) (.seq (.reg [z3 84 1,z3 4 84]) .ret))
theorem t68:Tryz.f68.body.bind (trC e68)=some c68:=by kernel_rfl
theorem r68:Tryz.f68.results.toList.mapM (trR Tryz.prog)=some [.tmp 4]:=by kernel_rfl
theorem fn68{args:List Value}{M:Mem}{post:Value→Mem→Prop}(hl:args.length≤85)(h:VC e68 c68 (fnQ [.tmp 4] post) (initS args 85) M):Fn Tryz.prog 68 args M post:=
 Fn.of' (E:=e68) Tryz.func68 t68 rfl r68 mixed hl h
noncomputable def e52:Env:=⟨Tryz.prog,[],19,[]⟩
noncomputable def c52:C:=
 .seq (.reg [zC 4 0]) (.seq (.seq (.reg [zC 5 0]) (.block 0 (.loop (.seq (.seq (.reg [z3 6 5,z3 7 0,zE 8 7,zN 9 6 8]) (.cond (.tmp 9) .skip (.exit 0))) (.seq (.block 1 (.seq (.reg [z3 12 0,z3 13 5,z3 14 1,z8 15 1 12 13,z7 1 15 14]) (.reg [z3 16 1,zG 17 16 1,z3 1 17]))) (.reg [z3 10 5,zG 11 10 1,z3 5 11])))))) (.seq (.reg [z3 18 1,z3 4 18]) .ret))
theorem t52:Tryz.f52.body.bind (trC e52)=some c52:=by kernel_rfl
theorem r52:Tryz.f52.results.toList.mapM (trR Tryz.prog)=some [.tmp 4]:=by kernel_rfl
theorem fn52{args:List Value}{M:Mem}{post:Value→Mem→Prop}(hl:args.length≤19)(h:VC e52 c52 (fnQ [.tmp 4] post) (initS args 19) M):Fn Tryz.prog 52 args M post:=
 Fn.of' (E:=e52) Tryz.func52 t52 rfl r52 mixed hl h
noncomputable def e69:Env:=⟨Tryz.prog,[],21,[]⟩
noncomputable def c69:C:=
 .seq (.reg [zC 4 0]) (.seq (.seq (.reg [zC 5 0]) (.block 0 (.loop (.seq (.seq (.reg [z3 6 5,z3 7 0,zE 8 7,zN 9 6 8]) (.cond (.tmp 9) .skip (.exit 0))) (.seq (.block 1 (.seq (.seq (.reg [z3 12 0,z3 13 5,z8 14 1 12 13,z5 15 1 14,z3 16 1,zW 17 15 16]) (.cond (.tmp 17) (.seq (.reg [zC 4 (-1)]) .ret) .skip)) (.reg [z3 18 1,zG 19 18 1,z3 1 19]))) (.reg [z3 10 5,zG 11 10 1,z3 5 11])))))) (.seq
 (.reg [z3 20 1,z3 4 20]) .ret))
theorem t69:Tryz.f69.body.bind (trC e69)=some c69:=by kernel_rfl
theorem r69:Tryz.f69.results.toList.mapM (trR Tryz.prog)=some [.tmp 4]:=by kernel_rfl
theorem fn69{args:List Value}{M:Mem}{post:Value→Mem→Prop}(hl:args.length≤21)(h:VC e69 c69 (fnQ [.tmp 4] post) (initS args 21) M):Fn Tryz.prog 69 args M post:=
 Fn.of' (E:=e69) Tryz.func69 t69 rfl r69 mixed hl h
noncomputable def e21:Env:=⟨Tryz.prog,[2],18,[]⟩
noncomputable def c21:C:=
 .seq (.reg [zT 2 0,zC 4 0]) (.seq (.reg [z4 5 3 2,z5 6 1 5,z3 7 1,zL 8 50 6 7,z3 1 8]) (.seq (.reg [z4 9 4 2,z5 10 1 9,z3 11 1,zL 12 51 10 11,z3 1 12]) (.seq (.reg [z4 13 8 2,z5 14 1 13,z3 15 1,zL 16 52 14 15,z3 1 16]) (.seq (.reg [z3 17 1,z3 4 17]) .ret))))
theorem t21:Tryz.f21.body.bind (trC e21)=some c21:=by kernel_rfl
theorem r21:Tryz.f21.results.toList.mapM (trR Tryz.prog)=some [.tmp 4]:=by kernel_rfl
theorem fn21{args:List Value}{M:Mem}{post:Value→Mem→Prop}(hl:args.length≤18)(h:VC e21 c21 (fnQ [.tmp 4] post) (initS args 18) M):Fn Tryz.prog 21 args M post:=
 Fn.of' (E:=e21) Tryz.func21 t21 rfl r21 mixed hl h
noncomputable def e34:Env:=⟨Tryz.prog,[2],24,[]⟩
noncomputable def c34:C:=
 .seq (.reg [zT 2 0,zC 4 0]) (.seq (.reg [z4 5 3 2,z5 6 1 5,z3 7 1,zL 8 67 6 7,z3 1 8]) (.seq (.seq (.reg [z3 9 1,zc 10 9 0]) (.cond (.tmp 10) (.seq (.reg [zC 4 (-1)]) .ret) .skip)) (.seq (.reg [z4 11 4 2,z5 12 1 11,z3 13 1,zL 14 68 12 13,z3 1 14]) (.seq (.seq (.reg [z3 15 1,zc 16 15 0]) (.cond (.tmp 16) (.seq (.reg [zC 4 (-1)]) .ret) .skip)) (.seq (.reg [z4 17 8 2,z5 18 1 17,z3 19 1,zL 20
 69 18 19,z3 1 20]) (.seq (.seq (.reg [z3 21 1,zc 22 21 0]) (.cond (.tmp 22) (.seq (.reg [zC 4 (-1)]) .ret) .skip)) (.seq (.reg [z3 23 1,z3 4 23]) .ret)))))))
theorem t34:Tryz.f34.body.bind (trC e34)=some c34:=by kernel_rfl
theorem r34:Tryz.f34.results.toList.mapM (trR Tryz.prog)=some [.tmp 4]:=by kernel_rfl
theorem fn34{args:List Value}{M:Mem}{post:Value→Mem→Prop}(hl:args.length≤24)(h:VC e34 c34 (fnQ [.tmp 4] post) (initS args 24) M):Fn Tryz.prog 34 args M post:=
 Fn.of' (E:=e34) Tryz.func34 t34 rfl r34 mixed hl h
noncomputable def e5:Env:=⟨Tryz.prog,[],12,[]⟩
noncomputable def c5:C:=
 .seq (.reg [zC 4 0]) (.seq (.reg [z3 5 1,z3 6 0,zE 7 6,qF 8 5 7,z3 1 8]) (.seq (.seq (.reg [z3 9 1,zc 10 9 0]) (.cond (.tmp 10) (.seq (.reg [zC 4 (-1)]) .ret) .skip)) (.seq (.reg [z3 11 1,z3 4 11]) .ret)))
theorem r5:Tryz.f5.results.toList.mapM (trR Tryz.prog)=some [.tmp 4]:=by kernel_rfl
noncomputable def e17:Env:=⟨Tryz.prog,[1,2,3],20,[]⟩
noncomputable def c17:C:=
 .seq (.reg [zT 1 0,⟨some 2,none,.alloc true [.int .i64 0,.int .i64 0,.int .i64 0,.int .i64 0,.int .i64 0]⟩]) (.seq (.reg [⟨some 3,none,.alloc true [.int .i64 0,.int .i64 0,.int .i64 0,.int .i64 0,.int .i64 0]⟩]) (.seq (.reg [z4 4 0 1,z5 5 1 4,z4 6 0 3,z7 1 6 5]) (.seq (.reg [z4 7 1 1,z5 8 1 7,z4 9 1 3,z7 1 9 8]) (.seq (.reg [z4 10 2 1,z5 11 1 10,z4 12 2 3,z7 1 12 11]) (.seq (.reg [z4 13 3 1,
 z5 14 1 13,z4 15 3 3,z7 1 15 14]) (.seq (.reg [z4 16 4 1,z5 17 1 16,z4 18 4 3,z7 1 18 17]) (.seq (.reg [z9 19 5 3,z7 5 2 19]) .ret)))))))
theorem t17:Tryz.f17.body.bind (trC e17)=some c17:=by kernel_rfl
theorem r17:Tryz.f17.results.toList.mapM (trR Tryz.prog)=some [.cell 2 false 5]:=by kernel_rfl
theorem fn17{args:List Value}{M:Mem}{post:Value→Mem→Prop}(hl:args.length≤20)(h:VC e17 c17 (fnQ [.cell 2 false 5] post) (initS args 20) M):Fn Tryz.prog 17 args M post:=
 Fn.of' (E:=e17) Tryz.func17 t17 rfl r17 mixed hl h
noncomputable def e7:Env:=⟨Tryz.prog,[],23,[]⟩
theorem r7:Tryz.f7.results.toList.mapM (trR Tryz.prog)=some [.tmp 2]:=by kernel_rfl
noncomputable def e11:Env:=⟨Tryz.prog,[],48,[]⟩
end Go.Proofs.YtpleoapljeffiaaGreatDoor.E
