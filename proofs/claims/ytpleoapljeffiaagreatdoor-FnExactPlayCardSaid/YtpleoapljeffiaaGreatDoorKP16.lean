/- A part of the proof. Conditions: none. -/
import Derived.Test.YtpleoapljeffiaaGreatDoorKP15
set_option linter.unusedVariables false
set_option linter.unusedSimpArgs false
namespace Go.Proofs.YtpleoapljeffiaaGreatDoor.E
open Go
open Classical
theorem aw_reg{H:Heap}(h:R4 H){w:Word}(hw:w∈H.regs):H.aw w=if w.kind=2 then⟨2,0,(H.getC w.at_).born⟩else w:=by
 unfold Heap.aw
 by_cases hk:w.kind=2
 ·rw[if_pos hk,if_pos hk,lead_id (fun hk=>((reg_used h hw).2 hk).1)]
 ·rw[if_neg hk,if_neg hk]
structure FillI (H:Heap) (s:Nat) (B:Nat→Option Int):Prop where
 ok:Sound H
 per:H.per=0
 regs:∀k,k<16→(H.regs.map H.aw)[k]?=some (match B k with|some b=>⟨2,0,b⟩|none=>⟨0,0,0⟩)
 far:∀k,5≤k→B k=none
 inj:∀j k b,B j=some b→B k=some b→j=k
 nod:∀(i:Nat) c,H.cells[i]?=some c→c.state=1→¬Doomed H i→c.last=0∧c.pairs=List.replicate (s-1) Pair.no
section
variable {H:Heap} {s:Nat} {B:Nat→Option Int}
theorem FillI.word(h:FillI H s B){k:Nat}{b:Int}(hk:k<16)(hb:B k=some b):∃(w:Word) (i:Nat) (c:Cell),H.regs[k]?=some w∧w.kind=2∧w.at_=i∧H.cells[i]?=some c∧c.state=1∧¬Doomed H i∧c.born=b:=by
 have hr:=h.regs k hk
 rw[hb,List.getElem?_map]at hr
 cases hw:H.regs[k]? with
 |none=>rw[hw]at hr;cases hr
 |some w=>
  rw[hw]at hr
  simp only[Option.map_some,Option.some.injEq]at hr
  have hm:=List.mem_of_getElem? hw
  rw[aw_reg h.ok.r4 hm]at hr
  obtain⟨u1,u2⟩:=reg_used h.ok.r4 hm
  by_cases hk2:w.kind=2
  ·rw[if_pos hk2]at hr
   obtain⟨v1,v2⟩:=u2 hk2
   have hat:=u1.at hk2
   obtain⟨i,hi⟩:=Int.eq_ofNat_of_zero_le hat.1
   rw[hi]at hr v1 v2 hat
   have hc:=get_at (H:=H) (i:=i) (by omega)
   refine⟨w,i,_,rfl,hk2,hi,hc,v1,v2,?_⟩
   simp only[Word.mk.injEq,true_and]at hr
   exact hr
  ·rw[if_neg hk2]at hr
   rw[hr]at hk2
   exact absurd rfl hk2
noncomputable def setB(B:Nat→Option Int)(k:Nat)(b:Int):Nat→Option Int:=fun j=>if j=k then some b else B j
theorem FillI.new(h:FillI H s B)(hs:1≤s∧s≤201)(hb:H.born<1000000000){k:Nat}(hk:k<5)(hr:H.used+s≤H.room):FillI (H.newH k 0 (s-1)) s (setB B k (H.born+1)):=by
 obtain⟨f0,f1,f2,_⟩:=frG_ok H H.cells.length
 have hS:Sound (H.newH k 0 (s-1)):=new_sound h.ok hb (by omega) (by omega) (by omega)
 obtain⟨a,ha⟩:=Int.eq_ofNat_of_zero_le f0
 have gK:∀j:Int,(H.newH k 0 (s-1)).getC j=if j.toNat=a then Cell.fresh 0 (H.born+1) (newCol H a) (s-1)else H.getC j:=fun j=>by
  have:=addC_L (cs:=H.cells) (at_:=(frG H H.cells.length).toNat) (c:=Cell.fresh 0 (H.born+1) (newCol H (frG H H.cells.length)) (s-1)) (by omega) j
  rw[ha]at this
  rw[getC_L,getC_L]
  unfold Heap.newH
  rw[ha]
  exact this
 have hne:∀w,w∈H.regs→w.kind=2→w.at_.toNat≠a:=fun w hw hk2 e=>by
  obtain⟨u1,u2⟩:=reg_used h.ok.r4 hw
  have hat:=u1.at hk2
  have e2:w.at_=frG H H.cells.length:=by omega
  have:=(u2 hk2).1
  rw[e2]at this hat
  have:=(f2 hat.2).2
  omega
 have rg:(H.newH k 0 (s-1)).regs=H.regs.set k ⟨2,0,a⟩:=by unfold Heap.newH;rw[ha]
 have h16:H.regs.length=16:=h.ok.r1.regs
 refine⟨hS,h.per,fun j hj=>?_,fun j hj=>?_,?_,fun i c hc hs1 hd=>?_⟩
 ·have hold:=h.regs j hj
  rw[List.getElem?_map]at hold⊢
  rw[rg,List.getElem?_set]
  by_cases e:k=j
  ·subst e
   rw[if_pos rfl,if_pos (by omega)]
   have hm:(⟨2,0,a⟩:Word)∈(H.newH k 0 (s-1)).regs:=by rw[rg];exact List.mem_of_getElem? (i:=k) (by rw[List.getElem?_set,if_pos rfl,if_pos (by omega)])
   simp only[Option.map_some,setB,if_true]
   rw[aw_reg hS.r4 hm,if_pos rfl,gK,if_pos (by simp)]
   rfl
  ·rw[if_neg e]
   have e1:setB B k (H.born+1) j=B j:=by unfold setB;rw[if_neg (fun x=>e x.symm)]
   rw[e1,←hold]
   cases hw:H.regs[j]? with
   |none=>rfl
   |some w=>
    have hm:=List.mem_of_getElem? hw
    have hm2:w∈(H.newH k 0 (s-1)).regs:=by rw[rg];exact List.mem_of_getElem? (i:=j) (by rw[List.getElem?_set,if_neg e];exact hw)
    simp only[Option.map_some,Option.some.injEq]
    rw[aw_reg hS.r4 hm2,aw_reg h.ok.r4 hm]
    by_cases hk2:w.kind=2
    ·rw[if_pos hk2,if_pos hk2,gK,if_neg (hne w hm hk2)]
    ·rw[if_neg hk2,if_neg hk2]
 ·unfold setB
  rw[if_neg (by omega)]
  exact h.far j hj
 ·have lt:∀j b,B j=some b→b≤H.born:=fun j b hb=>by
   obtain⟨w,i,c,_,_,_,c1,c2,_,c4⟩:=h.word (k:=j) (by
    rcases Nat.lt_or_ge j 5 with y|y
    ·omega
    ·rw[h.far j y]at hb;cases hb) hb
   obtain⟨_,_,_,_,⟨_,u⟩,_⟩:=h.ok.r2.used c1 c2
   omega
  intro i j b hi hj
  unfold setB at hi hj
  by_cases e1:i=k
  ·by_cases e2:j=k
   ·omega
   ·rw[if_pos e1]at hi
    rw[if_neg e2]at hj
    have:=lt j b hj
    simp only[Option.some.injEq]at hi
    omega
  ·rw[if_neg e1]at hi
   by_cases e2:j=k
   ·rw[if_pos e2]at hj
    have:=lt i b hi
    simp only[Option.some.injEq]at hj
    omega
   ·rw[if_neg e2]at hj
    exact h.inj i j b hi hj
 ·have hc':(addC H.cells a (Cell.fresh 0 (H.born+1) (newCol H a) (s-1)))[i]?=some c:=by
   unfold Heap.newH at hc
   rw[ha]at hc
   exact hc
  rcases addC_gt (by omega) hc' with⟨e1,e2⟩|⟨e1,e2⟩
  ·subst e2;exact⟨rfl,rfl⟩
  ·refine h.nod i c e2 hs1 (fun hD=>hd ?_)
   obtain⟨d1,d2,d3,d4⟩:=hD
   have g:(H.newH k 0 (s-1)).getC i=H.getC i:=by rw[gK,if_neg (by omega)]
   exact⟨d1,by rw[g];exact d2,by rw[g];exact d3,d4⟩
end
noncomputable def runH:Heap→List Act→Heap
 |H,[]=>H
 |H,b::r=>runH (actA H b).heap r
noncomputable def ansL:Heap→List Act→List (Int×Int)
 |_,[]=>[]
 |H,b::r=>((actA H b).code,(actA H b).num)::ansL (actA H b).heap r
theorem runH_app:∀(l:List Act) (H:Heap) (b:Act),runH H (l++[b])=(actA (runH H l) b).heap
 |[],_,_=>rfl
 |c::r,H,b=>runH_app r (actA H c).heap b
theorem ansL_app:∀(l:List Act) (H:Heap) (b:Act),ansL H (l++[b])=ansL H l++[((actA (runH H l) b).code,(actA (runH H l) b).num)]
 |[],_,_=>rfl
 |c::r,H,b=>by
  show _::ansL (actA H c).heap (r++[b])=_
  rw[ansL_app r];rfl
theorem runH_sound:∀(l:List Act) {H:Heap},Sound H→Sound (runH H l)
 |[],_,h=>h
 |b::r,_,h=>runH_sound r (actA_sound h)
theorem ansL_len:∀(l:List Act) (H:Heap),(ansL H l).length=l.length
 |[],_=>rfl
 |b::r,H=>by simp[ansL,ansL_len r]
def hsum(f:Nat→Bool)(s:Nat):Int:=(if f 0 then(s:Int)else 0)+(if f 1 then(s:Int)else 0)+(if f 2 then(s:Int)else 0)+(if f 3 then(s:Int)else 0)+(if f 4 then(s:Int)else 0)
def hB(room:Int)(s:Nat):Nat→Nat→Bool
 |0,_=>false
 |i+1,k=>if hsum (hB room s i) s+s≤room then(decide (k=i%5)||hB room s i k)else hB room s i k
end Go.Proofs.YtpleoapljeffiaaGreatDoor.E
set_option maxRecDepth 100000
namespace Go.Proofs.YtpleoapljeffiaaGreatDoor.E
open Go
noncomputable def e29:Env:=⟨Tryz.prog,[2,7,18],22,[]⟩
abbrev qO(a0:Nat)(a1:Nat)(a2:Nat)(a3:Int)(a4:Int)(a5:Int)(a6:Nat)(a7:Nat)(a8:Nat)(a9:Nat)(a10:Int)(a11:Int)(a12:Int)(a13:Nat)(a14:Nat)(a15:Int)(a16:Int)(a17:Int)(a18:Int):I:=⟨some a0,none,.alloc true [.bool false,.slice none a1 a2,.int .i64 a3,.int .i64 a4,.int .i64 a5,.slice none a6 a7,.slice none a8 a9,.int .i64 a10,.int .i64 a11,.int .i64 a12,.slice none a13 a14,.int .i64 a15,.int .i64 a16,.int .i64 a17,.int .i64 a18]⟩
noncomputable def c29:C:=
 .seq (.reg [zO 2 0,zi 4 0 0]) (.seq (.reg [zi 5 0 0]) (.seq (.seq (.reg [z3 8 1,zE 9 8,zA 10 0]) (.block 0 (.loop (.seq (.reg [zK 11 10 9]) (.seq (.cond (.tmp 11) .skip (.exit 0)) (.seq (.block 1 (.seq (.reg [z8 12 5 8 10,z9 13 5 12,qZ 7 0 0 0 0 0,z7 5 7 13]) (.reg [z3 14 5,z9 15 2 2,z9 16 5 7,zG 17 45 15 16,⟨some 18,none,.bslice true 1 2 [.int .i64 0,.int .i64 0] [(0,2,.tmp 17)]⟩,⟨some 19,
 none,.app 2 16 [.int .i64 0,.int .i64 0] (.tmp 14) (.tmp 18)⟩,z3 5 19]))) (.reg [zD 20 10 1,z3 10 20]))))))) (.seq (.reg [z3 21 5,z3 4 21]) .ret)))
theorem t29:Tryz.f29.body.bind (trC e29)=some c29:=by kernel_rfl
theorem r29:Tryz.f29.results.toList.mapM (trR Tryz.prog)=some [.tmp 4]:=by kernel_rfl
theorem fn29{args:List Value}{M:Mem}{post:Value→Mem→Prop}(hl:args.length≤22)(h:VC e29 c29 (fnQ [.tmp 4] post) (initS args 22) M):Fn Tryz.prog 29 args M post:=
 Fn.of' (E:=e29) Tryz.func29 t29 rfl r29 mixed hl h
noncomputable def e27:Env:=⟨Tryz.prog,[],12,[]⟩
noncomputable def c27:C:=
 .seq (.reg [zF 4]) (.seq (.reg [z3 5 0,q5 6 66 5 1 4000,z3 7 6,zL 8 7 1,qX 9 7 8,⟨some 10,some (7,true),.bin .leq (.tmp 9) (.const (.int .i64 1000))⟩,zP 11 7 10,z3 4 11]) .ret)
theorem t27:Tryz.f27.body.bind (trC e27)=some c27:=by kernel_rfl
theorem r27:Tryz.f27.results.toList.mapM (trR Tryz.prog)=some [.tmp 4]:=by kernel_rfl
theorem fn27{args:List Value}{M:Mem}{post:Value→Mem→Prop}(hl:args.length≤12)(h:VC e27 c27 (fnQ [.tmp 4] post) (initS args 12) M):Fn Tryz.prog 27 args M post:=
 Fn.of' (E:=e27) Tryz.func27 t27 rfl r27 mixed hl h
noncomputable def e8:Env:=⟨Tryz.prog,[4],20,[]⟩
noncomputable def c8:C:=
 .seq (.reg [qO 4 0 0 0 0 0 0 0 0 0 0 0 0 0 0 0 0 0 0]) (.seq (.seq (.reg [z3 7 0,z3 8 1,zG 9 27 7 8,zQ 10 9]) (.cond (.tmp 10) (.seq (.reg [⟨some 11,none,.build [.bool false,.slice none 0 0,.int .i64 0,.int .i64 0,.int .i64 0,.slice none 0 0,.slice none 0 0,.int .i64 0,.int .i64 0,.int .i64 0,.slice none 0 0,.int .i64 0,.int .i64 0,.int .i64 0,.int .i64 0] []⟩,z7 15 4 11]) .ret) .skip)) (.seq
 (.reg [z3 12 0,zI 13 28 12,⟨some 5,none,.alloc false [.int .i64 0,.int .i64 0,.int .i64 0,.slice none 0 0,.slice none 0 0,.int .i64 0,.int .i64 0,.int .i64 0,.slice none 0 0,.int .i64 0,.int .i64 0,.int .i64 0,.int .i64 0]⟩,z7 13 5 13]) (.seq (.reg [⟨some 14,none,.build [.pointer none,.bool false] [(0,1,.tmp 5),(1,1,.const (.bool false))]⟩,z3 15 1,zG 16 29 14 15,z3 6 16]) (.seq (.reg [z3 17 6,
 z9 18 13 5,⟨some 19,none,.build [.bool false,.slice none 0 0,.int .i64 0,.int .i64 0,.int .i64 0,.slice none 0 0,.slice none 0 0,.int .i64 0,.int .i64 0,.int .i64 0,.slice none 0 0,.int .i64 0,.int .i64 0,.int .i64 0,.int .i64 0] [(0,1,.const (.bool true)),(1,1,.tmp 17),(2,13,.tmp 18)]⟩,z7 15 4 19]) .ret))))
theorem t8:Tryz.f8.body.bind (trC e8)=some c8:=by kernel_rfl
theorem r8:Tryz.f8.results.toList.mapM (trR Tryz.prog)=some [.cell 4 false 15]:=by kernel_rfl
theorem fn8{args:List Value}{M:Mem}{post:Value→Mem→Prop}(hl:args.length≤20)(h:VC e8 c8 (fnQ [.cell 4 false 15] post) (initS args 20) M):Fn Tryz.prog 8 args M post:=
 Fn.of' (E:=e8) Tryz.func8 t8 rfl r8 mixed hl h
noncomputable def e6:Env:=⟨Tryz.prog,[4,6,8,32],41,[(8,0)]⟩
noncomputable def c6:C:=
 .seq (.reg [qO 4 0 0 0 0 0 0 0 0 0 0 0 0 0 0 0 0 0 0]) (.seq (.seq (.reg [z3 9 0,q5 10 24 9 1 4000,zQ 11 10,z3 12 11,zV 13 12 1,⟨some 14,some (12,false),.lenS (.tmp 13)⟩,qj 15 12 14 1000,zW 16 12 15]) (.cond (.tmp 16) (.seq (.reg [⟨some 17,none,.build [.bool false,.slice none 0 0,.int .i64 0,.int .i64 0,.int .i64 0,.slice none 0 0,.slice none 0 0,.int .i64 0,.int .i64 0,.int .i64 0,.slice none
 0 0,.int .i64 0,.int .i64 0,.int .i64 0,.int .i64 0] []⟩,z7 15 4 17]) .ret) .skip)) (.seq (.reg [z3 18 0,zI 19 25 18,z3 5 19]) (.seq (.reg [⟨some 20,none,.build [.bool false,.slice none 0 0,.int .i64 0,.int .i64 0,.int .i64 0,.slice none 0 0,.slice none 0 0,.int .i64 0,.int .i64 0,.int .i64 0,.slice none 0 0,.int .i64 0,.int .i64 0,.int .i64 0,.int .i64 0] [(0,1,.const (.bool true))]⟩,qO 6 0 0
 0 0 0 0 0 0 0 0 0 0 0 0 0 0 0 0,z7 15 6 20]) (.seq (.seq (.reg [z3 21 1,zE 22 21,zA 23 0]) (.block 0 (.loop (.seq (.reg [zK 24 23 22]) (.seq (.cond (.tmp 24) .skip (.exit 0)) (.seq (.block 1 (.seq (.reg [z8 25 5 21 23,z9 26 5 25,qZ 8 0 0 0 0 0,z7 5 8 26]) (.hreg [4,6,8] [z4 27 1 6,z5 28 1 27,z3 29 5,z9 30 5 8] (.alt (zG 31 26 29 30) (.alt ⟨some 32,none,.bslice true 1 2 [.int .i64 0,.int .i64
 0] [(0,2,.tmp 31)]⟩ (.alt ⟨some 33,none,.app 2 16 [.int .i64 0,.int .i64 0] (.tmp 28) (.tmp 32)⟩ (.alf (z4 34 1 6) (.alf (z7 1 34 33) (.done) (.none)) (.none)) (.none)) (.none)) (.none))))) (.reg [zD 35 23 1,z3 23 35]))))))) (.seq (.reg [z3 36 5,z6 37 36,z9 38 13 37,z4 39 2 6,z7 13 39 38]) (.seq (.reg [z9 40 15 6,z7 15 4 40]) .ret))))))
theorem t6:Tryz.f6.body.bind (trC e6)=some c6:=by kernel_rfl
theorem r6:Tryz.f6.results.toList.mapM (trR Tryz.prog)=some [.cell 4 false 15]:=by kernel_rfl
theorem fn6{args:List Value}{M:Mem}{post:Value→Mem→Prop}(hl:args.length≤41)(h:VC e6 c6 (fnQ [.cell 4 false 15] post) (initS args 41) M):Fn Tryz.prog 6 args M post:=
 Fn.of' (E:=e6) Tryz.func6 t6 rfl r6 mixed hl h
noncomputable def e9:Env:=⟨Tryz.prog,[2,3],22,[]⟩
noncomputable def c9:C:=
 .seq (.reg [zO 2 0,zO 3 1,zF 4]) (.seq (.seq (.reg [z4 5 0 2,z5 6 1 5,z4 7 0 3,z5 8 1 7,⟨some 9,none,.eqB true (.tmp 6) (.tmp 8)⟩]) (.cond (.tmp 9) (.seq (.reg [zF 4]) .ret) .skip)) (.seq (.seq (.reg [z4 10 1 2,z5 11 1 10,z4 12 1 3,z5 13 1 12,zG 14 30 11 13,zQ 15 14]) (.cond (.tmp 15) (.seq (.reg [zF 4]) .ret) .skip)) (.seq (.seq (.reg [z4 16 2 2,z9 17 13 16,z4 18 2 3,z9 19 13 18,zG 20 20
 17 19,zQ 21 20]) (.cond (.tmp 21) (.seq (.reg [zF 4]) .ret) .skip)) (.seq (.reg [zX 4]) .ret))))
theorem t9:Tryz.f9.body.bind (trC e9)=some c9:=by kernel_rfl
theorem r9:Tryz.f9.results.toList.mapM (trR Tryz.prog)=some [.tmp 4]:=by kernel_rfl
theorem fn9{args:List Value}{M:Mem}{post:Value→Mem→Prop}(hl:args.length≤22)(h:VC e9 c9 (fnQ [.tmp 4] post) (initS args 22) M):Fn Tryz.prog 9 args M post:=
 Fn.of' (E:=e9) Tryz.func9 t9 rfl r9 mixed hl h
noncomputable def e30:Env:=⟨Tryz.prog,[],27,[(6,10)]⟩
noncomputable def c30:C:=
 .seq (.reg [zF 4]) (.seq (.seq (.reg [z3 6 0,zE 7 6,z3 8 1,zE 9 8,zN 10 7 9]) (.cond (.tmp 10) (.seq (.reg [zF 4]) .ret) .skip)) (.seq (.seq (.reg [zA 5 0]) (.block 0 (.loop (.seq (.seq (.reg [z3 11 5,z3 12 0,zE 13 12,zK 14 11 13]) (.cond (.tmp 14) .skip (.exit 0))) (.seq (.block 1 (.seq (.dreg 10 [z3 17 0,z3 18 5,z8 19 2 17 18,z9 20 2 19,z3 21 1,z3 22 5,z8 23 2 21 22,z9 24 2 23,zn 25 46 20
 24,zQ 26 25]) (.cond (.tmp 26) (.seq (.reg [zF 4]) .ret) .skip))) (.reg [z3 15 5,zD 16 15 1,z3 5 16])))))) (.seq (.reg [zX 4]) .ret)))
theorem t30:Tryz.f30.body.bind (trC e30)=some c30:=by kernel_rfl
theorem r30:Tryz.f30.results.toList.mapM (trR Tryz.prog)=some [.tmp 4]:=by kernel_rfl
theorem fn30{args:List Value}{M:Mem}{post:Value→Mem→Prop}(hl:args.length≤27)(h:VC e30 c30 (fnQ [.tmp 4] post) (initS args 27) M):Fn Tryz.prog 30 args M post:=
 Fn.of' (E:=e30) Tryz.func30 t30 rfl r30 mixed hl h
noncomputable def e32:Env:=⟨Tryz.prog,[],27,[]⟩
noncomputable def c32:C:=
 .seq (.reg [zA 4 0]) (.seq (.seq (.reg [zA 5 0]) (.block 0 (.loop (.seq (.seq (.reg [z3 6 5,z3 7 0,zE 8 7,zK 9 6 8]) (.cond (.tmp 9) .skip (.exit 0))) (.seq (.block 1 (.seq (.reg [z3 12 0,z3 13 5,z3 14 1,z8 15 2 12 13,z4 16 0 15,z7 1 16 14]) (.seq (.reg [z3 17 1,zD 18 17 1,z3 1 18]) (.seq (.reg [z3 19 0,z3 20 5,z3 21 1,z8 22 2 19 20,z4 23 1 22,z7 1 23 21]) (.reg [z3 24 1,zD 25 24 1,z3 1
 25]))))) (.reg [z3 10 5,zD 11 10 1,z3 5 11])))))) (.seq (.reg [z3 26 1,z3 4 26]) .ret))
theorem t32:Tryz.f32.body.bind (trC e32)=some c32:=by kernel_rfl
theorem r32:Tryz.f32.results.toList.mapM (trR Tryz.prog)=some [.tmp 4]:=by kernel_rfl
theorem fn32{args:List Value}{M:Mem}{post:Value→Mem→Prop}(hl:args.length≤27)(h:VC e32 c32 (fnQ [.tmp 4] post) (initS args 27) M):Fn Tryz.prog 32 args M post:=
 Fn.of' (E:=e32) Tryz.func32 t32 rfl r32 mixed hl h
noncomputable def e33:Env:=⟨Tryz.prog,[],31,[]⟩
noncomputable def c33:C:=
 .seq (.reg [zA 4 0]) (.seq (.seq (.reg [zA 5 0]) (.block 0 (.loop (.seq (.seq (.reg [z3 6 5,z3 7 0,zE 8 7,zK 9 6 8]) (.cond (.tmp 9) .skip (.exit 0))) (.seq (.block 1 (.seq (.seq (.reg [z3 12 0,z3 13 5,z8 14 2 12 13,z4 15 0 14,z5 16 1 15,z3 17 1,zN 18 16 17]) (.cond (.tmp 18) (.seq (.reg [zA 4 (-1)]) .ret) .skip)) (.seq (.reg [z3 19 1,zD 20 19 1,z3 1 20]) (.seq (.seq (.reg [z3 21 0,z3 22 5,
 z8 23 2 21 22,z4 24 1 23,z5 25 1 24,z3 26 1,zN 27 25 26]) (.cond (.tmp 27) (.seq (.reg [zA 4 (-1)]) .ret) .skip)) (.reg [z3 28 1,zD 29 28 1,z3 1 29]))))) (.reg [z3 10 5,zD 11 10 1,z3 5 11])))))) (.seq (.reg [z3 30 1,z3 4 30]) .ret))
theorem t33:Tryz.f33.body.bind (trC e33)=some c33:=by kernel_rfl
theorem r33:Tryz.f33.results.toList.mapM (trR Tryz.prog)=some [.tmp 4]:=by kernel_rfl
theorem fn33{args:List Value}{M:Mem}{post:Value→Mem→Prop}(hl:args.length≤31)(h:VC e33 c33 (fnQ [.tmp 4] post) (initS args 31) M):Fn Tryz.prog 33 args M post:=
 Fn.of' (E:=e33) Tryz.func33 t33 rfl r33 mixed hl h
noncomputable def e12:Env:=⟨Tryz.prog,[2],14,[]⟩
noncomputable def c12:C:=
 .seq (.reg [zO 2 0,zA 4 0]) (.seq (.reg [z4 5 1 2,z5 6 1 5,z3 7 1,zG 8 32 6 7,z3 1 8]) (.seq (.reg [z4 9 2 2,z9 10 13 9,z3 11 1,zG 12 21 10 11,z3 1 12]) (.seq (.reg [z3 13 1,z3 4 13]) .ret)))
theorem t12:Tryz.f12.body.bind (trC e12)=some c12:=by kernel_rfl
theorem r12:Tryz.f12.results.toList.mapM (trR Tryz.prog)=some [.tmp 4]:=by kernel_rfl
theorem fn12{args:List Value}{M:Mem}{post:Value→Mem→Prop}(hl:args.length≤14)(h:VC e12 c12 (fnQ [.tmp 4] post) (initS args 14) M):Fn Tryz.prog 12 args M post:=
 Fn.of' (E:=e12) Tryz.func12 t12 rfl r12 mixed hl h
noncomputable def e13:Env:=⟨Tryz.prog,[2],18,[]⟩
noncomputable def c13:C:=
 .seq (.reg [zO 2 0,zA 4 0]) (.seq (.reg [z4 5 1 2,z5 6 1 5,z3 7 1,zG 8 33 6 7,z3 1 8]) (.seq (.seq (.reg [z3 9 1,zZ 10 9 0]) (.cond (.tmp 10) (.seq (.reg [zA 4 (-1)]) .ret) .skip)) (.seq (.reg [z4 11 2 2,z9 12 13 11,z3 13 1,zG 14 34 12 13,z3 1 14]) (.seq (.seq (.reg [z3 15 1,zZ 16 15 0]) (.cond (.tmp 16) (.seq (.reg [zA 4 (-1)]) .ret) .skip)) (.seq (.reg [z3 17 1,z3 4 17]) .ret)))))
theorem t13:Tryz.f13.body.bind (trC e13)=some c13:=by kernel_rfl
theorem r13:Tryz.f13.results.toList.mapM (trR Tryz.prog)=some [.tmp 4]:=by kernel_rfl
theorem fn13{args:List Value}{M:Mem}{post:Value→Mem→Prop}(hl:args.length≤18)(h:VC e13 c13 (fnQ [.tmp 4] post) (initS args 18) M):Fn Tryz.prog 13 args M post:=
 Fn.of' (E:=e13) Tryz.func13 t13 rfl r13 mixed hl h
noncomputable def e3:Env:=⟨Tryz.prog,[6,8,12],74,[]⟩
noncomputable def c3:C:=
 .seq (.reg [zF 4]) (.seq (.reg [zA 5 1048576]) (.seq (.reg [z3 13 1,z3 14 5,zG 15 5 13 14,z3 5 15]) (.seq (.seq (.reg [z3 16 5,zZ 17 16 0]) (.cond (.tmp 17) (.seq (.reg [zX 4]) .ret) .skip)) (.seq (.reg [z3 18 0,z3 19 1,zI 20 7 19,zG 21 6 18 20,qO 6 0 0 0 0 0 0 0 0 0 0 0 0 0 0 0 0 0 0,z7 15 6 21]) (.seq (.reg [z3 22 1,zI 23 7 22,z3 7 23]) (.seq (.reg [z3 24 0,z3 25 7,zG 26 8 24 25,qO 8 0
 0 0 0 0 0 0 0 0 0 0 0 0 0 0 0 0 0,z7 15 8 26]) (.seq (.seq (.reg [z9 27 15 8,z9 28 15 6,zG 29 9 27 28,zQ 30 29]) (.cond (.tmp 30) (.seq (.reg [zF 4]) .ret) .skip)) (.seq (.seq (.reg [z3 31 7,z3 32 1,zI 33 7 32,zG 34 10 31 33,zQ 35 34]) (.cond (.tmp 35) (.seq (.reg [zF 4]) .ret) .skip)) (.seq (.reg [zA 9 1]) (.seq (.reg [z3 36 7,z3 37 9,zG 38 11 36 37,z3 9 38]) (.seq (.seq (.reg [z3 39 9,zZ
 40 39 0,z3 41 40,qY 42 41 15 8,qY 43 41 15 6,qg 44 41 9 42 43,qU 45 41 44,zW 46 41 45]) (.cond (.tmp 46) (.seq (.reg [zF 4]) .ret) .skip)) (.seq (.reg [zA 10 1]) (.seq (.reg [z9 47 15 8,z3 48 10,zG 49 12 47 48,z3 10 49]) (.seq (.reg [zA 11 1]) (.seq (.reg [z9 50 15 8,z3 51 11,zG 52 13 50 51,z3 11 52]) (.seq (.seq (.reg [z3 53 11,zZ 54 53 0]) (.cond (.tmp 54) (.seq (.reg [zF 4]) .ret)
 .skip)) (.seq (.seq (.reg [z3 55 11,z3 56 10,zN 57 55 56]) (.cond (.tmp 57) (.seq (.reg [zF 4]) .ret) .skip)) (.seq (.reg [z3 58 0,z3 59 1,zI 60 7 59,zG 61 8 58 60,qO 12 0 0 0 0 0 0 0 0 0 0 0 0 0 0 0 0 0 0,z7 15 12 61]) (.seq (.seq (.reg [z9 62 15 12,z9 63 15 6,zG 64 9 62 63,zQ 65 64]) (.cond (.tmp 65) (.seq (.reg [zF 4]) .ret) .skip)) (.seq (.reg [zA 11 1]) (.seq (.reg [z9 66 15 8,z3 67
 11,zG 68 13 66 67,z3 11 68]) (.seq (.seq (.reg [z3 69 11,zZ 70 69 0]) (.cond (.tmp 70) (.seq (.reg [zF 4]) .ret) .skip)) (.seq (.seq (.reg [z3 71 11,z3 72 10,zN 73 71 72]) (.cond (.tmp 73) (.seq (.reg [zF 4]) .ret) .skip)) (.seq (.reg [zX 4]) .ret))))))))))))))))))))))))
theorem t3:Tryz.f3.body.bind (trC e3)=some c3:=by kernel_rfl
theorem r3:Tryz.f3.results.toList.mapM (trR Tryz.prog)=some [.tmp 4]:=by kernel_rfl
theorem fn3{args:List Value}{M:Mem}{post:Value→Mem→Prop}(hl:args.length≤74)(h:VC e3 c3 (fnQ [.tmp 4] post) (initS args 74) M):Fn Tryz.prog 3 args M post:=
 Fn.of' (E:=e3) Tryz.func3 t3 rfl r3 mixed hl h
end Go.Proofs.YtpleoapljeffiaaGreatDoor.E
set_option maxHeartbeats 8000000
namespace Go.Proofs.YtpleoapljeffiaaGreatDoor.E
open Go
open Classical
def anv(p:Int×Int):List Value:=[.int .i64 p.1,.int .i64 p.2]
theorem anv_len(p:Int×Int):(anv p).length=2:=rfl
theorem av_len5(b:Act):(av b).length=5:=rfl
theorem all_a{a:Nat}{x:HX}{m:Mem}{acts:List Act}{d:D}(hact:∀(b:Act) (x:HX),b∈acts→Sound x.H→FnA Tryz.prog 45 [eV a,actV b] (hp a x++[ro m]) (fun v As=>∃z:HX,v=an (actA x.H b).code (actA x.H b).num∧As=hp a z++[ro m]∧z.H=(actA x.H b).heap))(h:Sound x.H)(hb:acts.length≤1000):
 FnA Tryz.prog 29 [eV a,.slice d.a acts.length d.cap] (hp a x++[slA 5 av d acts,ro m]) (fun v As=>∃(z:HX) (sd:D),v=.slice sd.a (ansL x.H acts).length sd.cap∧As=hp a z++[slA 2 anv sd (ansL x.H acts),slA 5 av d acts,ro m]∧z.H=runH x.H acts):=by
 refine fnA_of (fun h=>fn29 (by simp) h) ?_
 repeat' (first
  |(refine k_L ?_;first|refine a_p rfl ?_|(refine k_bx ?_;refine a_bx rfl rfl ?_))
  |refine a_n ?_
  |(refine k_V ?_;first|refine v_seq ?_|refine v_reg ?_)
  |refine s_n ?_)
 refine g_range acts.length (fun q:HX×D×List (Int×Int)=>[(2,.box [ptr a,.bool false]),(8,.v (.slice d.a acts.length d.cap)),(5,.v (.slice q.2.1.a q.2.2.length q.2.1.cap))]) (fun q=>hp a q.1++[slA 2 anv q.2.1 q.2.2,slA 5 av d acts,ro m]) (fun i q=>q.1.H=runH x.H (acts.take i)∧q.2.2=ansL x.H (acts.take i)) (x,⟨none,0⟩,[]) ⟨rfl,rfl⟩ (fun i q hi hv=>?_) (fun q hv=>?_) (hent:=(ent_new (f:=anv) (size:=2)).trans (Pm.ent pmt))
 ·obtain⟨z,sd,l⟩:=q
  obtain⟨v1,v2⟩:=hv
  dsimp only at v1 v2⊢
  obtain⟨b,gb⟩:∃b,acts[i]?=some b:=⟨_,List.getElem?_eq_getElem hi⟩
  have zS:Sound z.H:=by rw[v1];exact runH_sound _ h
  have et:acts.take (i+1)=acts.take i++[b]:=by rw[List.take_add_one,gb];rfl
  have ll:l.length=i:=by rw[v2,ansL_len,List.length_take];omega
  repeat' (first
   |(refine k_L ?_;first|refine a_p rfl ?_|(refine k_i ?_;refine g_i rfl rfl ?_)|(refine k_st ?_;refine g_sw rfl rfl rfl rfl (Nat.le_of_ble_eq_true rfl) ?_)|(refine k_al ?_;refine a_al ?_)|(refine k_bl ?_;refine a_bl rfl ?_)|(refine a_ls rfl (rs_t (rs_t (rs_t (rs_t (rs_t (rs_h (rs_sl av_len5 gb))))))) ?_)|(refine g_c rfl (hact b z (List.mem_of_getElem? gb) zS) (fun v As' hq=>?_);obtain⟨u,rfl,rfl,hu⟩:=hq))
   |refine a_n ?_
   |(refine k_V ?_;first|refine v_seq ?_|refine v_reg ?_)
   |refine sk_zero ?_
   |refine sk_succ ?_
   |refine wk_nil ?_
   |refine wk_cons ?_)
  refine g_ap (xs:=l) (e:=sd) ((actA z.H b).code,(actA z.H b).num) anv_len rfl rfl rfl (by omega) (hb:=by omega) (fun e'=>?_)
  repeat' (first
   |(refine k_L ?_;refine a_p rfl ?_)
   |refine a_n ?_)
  exact r_nx (u,e',l++[((actA z.H b).code,(actA z.H b).num)]) ⟨by dsimp only;rw[hu,et,runH_app,←v1],by dsimp only;rw[et,ansL_app,←v1,←v2]⟩
 ·obtain⟨z,sd,l⟩:=q
  obtain⟨v1,v2⟩:=hv
  dsimp only at v1 v2⊢
  rw[List.take_length]at v1 v2
  subst v2
  repeat' (first
   |(refine k_L ?_;refine a_p rfl ?_)
   |refine a_n ?_
   |(refine k_V ?_;first|refine v_seq ?_|refine v_reg ?_|refine v_ret ?_))
  exact fa_r (As':=hp a z++[slA 2 anv sd (ansL x.H acts),slA 5 av d acts,ro m]) (fun _ _=>rfl) (Pm.ent pmt) ⟨z,sd,rfl,rfl,v1⟩
def Heap.nw(room:Int):Heap:=⟨room,0,0,List.replicate 16 ⟨0,0,0⟩,[],0,0,0,[],0,0,0,0⟩
theorem nw_sound{room:Int}(h:1≤room∧room≤4000):Sound (Heap.nw room) where
 r1:=⟨h,by simp[Heap.nw],by simp[Heap.nw];omega,by simp[Heap.nw],by simp[Heap.nw],by simp[Heap.nw],by simp[Heap.nw],by simp[Heap.nw],by simp[Heap.nw],by simp[Heap.nw],by simp[Heap.nw],by simp[Heap.nw]⟩
 r2:=⟨fun i c hc=>by simp[Heap.nw]at hc,fun i j c d hc=>by simp[Heap.nw]at hc,fun i j c d hc=>by simp[Heap.nw]at hc⟩
 r3:=⟨rfl,by show(0:Int)≤room;omega⟩
 r4:=⟨fun w hw=>by
  have:w=⟨0,0,0⟩:=List.eq_of_mem_replicate hw
  subst this
  exact⟨.inl ⟨rfl,rfl,rfl⟩,fun hk=>by simp at hk⟩,fun i c hc=>by simp[Heap.nw]at hc,fun i c hc=>by simp[Heap.nw]at hc⟩
 r5:=⟨fun hm=>by rcases hm with h|h<;>simp[Heap.nw]at h,fun _=>⟨rfl,fun i c hc=>by simp[Heap.nw]at hc⟩⟩
 r6:=by unfold R6;rw[if_pos (.inl rfl)];exact⟨rfl,rfl⟩
 r7:=fun hm=>by rcases hm with h|h<;>simp[Heap.nw]at h
 r8:=fun h=>by simp[Heap.nw]at h
theorem freshI_a{room:Int}(h:1≤room∧room≤4000):FnA Tryz.prog 28 [.int .i64 room] [] (fun v As'=>∃z:HX,v=z.v∧As'=z.body∧z.H=Heap.nw room):=by
 refine fnA_of (fun h=>fn28 (by simp) h) ?_
 repeat' (first
  |(refine k_L ?_;first|refine a_p rfl ?_|(refine k_st ?_;refine g_sw rfl rfl rfl rfl (Nat.le_of_ble_eq_true rfl) ?_)|(refine k_al ?_;refine a_al ?_)|(refine k_c ?_;refine a_cq rfl (fun m hm=>impl.withinQ) ?_)|(refine a_mk (f:=wv) (n:=16) (k:=16) ⟨0,0,0⟩ wv_len rfl rfl rfl (by omega) (by omega) (fun g hg=>?_)))
  |refine a_n ?_
  |(refine k_V ?_;first|refine v_seq ?_|refine v_reg ?_|refine v_ret ?_|refine v_skip ?_|(refine v_cnd rfl (fun hb=>?_) (fun hb=>?_)<;>try(exfalso;omega)))
  |refine sk_zero ?_
  |refine sk_succ ?_
  |refine wk_nil ?_
  |refine wk_cons ?_)
 refine fa_r (As':=(⟨room,0,0,List.replicate 16 ⟨0,0,0⟩,[],0,0,0,[],0,0,0,0,g,⟨none,0⟩,⟨none,0⟩⟩:HX).body) (fun _ _=>rfl) ?_ ⟨_,rfl,rfl,rfl⟩
 refine Ent.trans (ent_new (f:=iv) (size:=1)) ?_
 refine Ent.trans (ent_new (f:=csv) (size:=8)) ?_
 refine Ent.trans (cl_nil (d:=⟨none,0⟩)) ?_
 exact Pm.ent pmt
theorem playable_q{m:Mem}{room:Int}{sa:Option Addr}{n cap:Nat}(hn:n≤1000)(hr:1≤room∧room≤4000):Qt Tryz.prog 27 [.int .i64 room,.slice sa n cap] m (.bool true):=by
 refine qt_of (fnA_of (fun h=>fn27 (by simp) h) ?_)
 repeat' (first
  |(refine k_L ?_;first|refine a_p rfl ?_|(refine k_g ?_;first|refine a_gy rfl rfl ?_|(refine a_gd rfl (fun hb=>?_) (fun hb=>?_)<;>try(exfalso;omega)))|(refine k_c ?_;refine a_cq rfl (fun m hm=>impl.withinQ) ?_))
  |refine a_n ?_
  |(refine k_V ?_;first|refine v_seq ?_|refine v_reg ?_|refine v_ret ?_))
 all_goals first
  |(exfalso;omega)
  |exact fa_q (by simp) (fun _ _=>rfl) (by congr 1;simp;omega)
def plV(b:Bool)(sd:D)(n:Nat)(x:HX):Value:=.agg (.bool b::.slice sd.a n sd.cap::x.row).toArray
theorem wr_off:∀(vs cs ds:List Value),ds.length=vs.length→wr (cs++ds) cs.length vs=cs++vs
 |[],cs,ds,h=>by
  have:ds=[]:=List.eq_nil_of_length_eq_zero h
  subst this;rfl
 |v::r,cs,d::ds,h=>by
  show wr ((cs++d::ds).set cs.length v) (cs.length+1) r=_
  have e:(cs++d::ds).set cs.length v=(cs++[v])++ds:=by
   rw[List.set_append_right _ _ (Nat.le_refl _),Nat.sub_self];simp
  rw[e,show cs.length+1=(cs++[v]).length by simp,wr_off r (cs++[v]) ds (by simpa using h)]
  simp
theorem wr_full{vs ds:List Value}(h:ds.length=vs.length):wr ds 0 vs=vs:=wr_off vs [] ds h
theorem up_full{b:Nat}{z vs:List Value}(h:z.length=vs.length):UpA (bx b z) b 0 vs (bx b vs):=up_bx (by omega) ⟨by rw[wr_full h]⟩
section
variable {P:Program} {S:St} {As:List Asr} {post:St→List Asr→Prop} {r:List I} {d:Option Nat}
theorem a_sth{p y:Operand}{b:Nat}{z:List Value}(x:HX)(hp:lc S p=some (.mm b 0))(hy:ev S y=some x.v)(hz:z.length=13)(h:LA P r post S (hdA b x.hdr::As)):LA P (⟨d,none,.store 13 p y⟩::r) post S (bx b z::As):=
 a_st hp hy rfl rfl (up_h (up_full (vs:=x.row) hz)) h
theorem g_swf{n:Nat}{x y:Operand}{s:Nat}{cs vs:List Value}(hx:lc S x=some (.bx s 0))(hb:S s=.box cs)(hy:ev S y=some (.agg vs.toArray))(hn:vs.length=n)(hl:cs.length=n)(hpl:plainCells vs=true)
 (h:LA P r post (upF S s (.box vs)) As):LA P (⟨d,none,.store n x y⟩::r) post S As:=
 g_sw (v:=.agg vs.toArray) hx hb hy hn (by omega) ⟨by show LA P r post (upF S s (.box (wr cs 0 vs))) As;rw[wr_full (by omega)];exact h⟩ hpl
end
theorem play_a{m:Mem}{acts:List Act}{d:D}{room:Int}(hact:∀(a:Nat) (b:Act) (x:HX),b∈acts→Sound x.H→FnA Tryz.prog 45 [eV a,actV b] (hp a x++[ro m]) (fun v As=>∃z:HX,v=an (actA x.H b).code (actA x.H b).num∧As=hp a z++[ro m]∧z.H=(actA x.H b).heap))(hb:acts.length≤1000)(hr:1≤room∧room≤4000):
 FnA Tryz.prog 8 [.int .i64 room,.slice d.a acts.length d.cap] [slA 5 av d acts,ro m] (fun v As=>∃(z:HX) (sd:D),v=plV true sd (ansL (Heap.nw room) acts).length z∧As=z.body++[slA 2 anv sd (ansL (Heap.nw room) acts),slA 5 av d acts,ro m]∧z.H=runH (Heap.nw room) acts):=by
 refine fnA_of (fun h=>fn8 (by simp) h) ?_
 repeat' (first
  |(refine k_L ?_;first|refine a_p rfl ?_|(refine k_al ?_;refine a_al ?_)|(refine k_c ?_;refine a_cq rfl (fun m hm=>playable_q hb hr) ?_)|(refine g_c rfl (freshI_a hr) (fun v As' hq=>?_);obtain⟨z,rfl,rfl,hz⟩:=hq))
  |refine a_n ?_
  |(refine k_V ?_;first|refine v_seq ?_|refine v_reg ?_|refine v_skip ?_|refine v_cf rfl ?_))
 refine a_nz (fun b=>?_)
 refine a_sth z rfl rfl rfl ?_
 repeat' (first
  |(refine k_L ?_;refine a_p rfl ?_)
  |refine a_n ?_
  |(refine k_V ?_;first|refine v_seq ?_|refine v_reg ?_))
 refine g_c rfl (all_a (x:=z) (d:=d) (hact b) (by rw[hz];exact nw_sound hr) hb) (fun v As' hq=>?_)
 obtain⟨u,sd,rfl,rfl,hu⟩:=hq
 rw[hz]at hu⊢
 refine a_p rfl (a_n (s_n (v_seq (v_reg (a_p rfl ?_)))))
 refine a_ls rfl (rs_h rs_hd) ?_
 refine a_p (sv:=.v (plV true sd (ansL (Heap.nw room) acts).length u)) rfl ?_
 refine g_swf (vs:=.bool true::.slice sd.a (ansL (Heap.nw room) acts).length sd.cap::u.row) rfl rfl rfl rfl rfl rfl ?_
 repeat' (first
  |refine a_n ?_
  |(refine k_V ?_;refine v_ret ?_))
 exact fa_r (As':=u.body++[slA 2 anv sd (ansL (Heap.nw room) acts),slA 5 av d acts,ro m]) (fun _ _=>rfl) (Pm.ent pmt) ⟨u,sd,rfl,rfl,hu⟩
def Calm(H:Heap)(s0 s:List Bool×List Int)(n:Nat):Prop:=s=s0→∀(k j:Nat) c,k<n→s0.2[k]?=some (j:Int)→H.cells[j]?=some c→RuleC H s0.1 c
noncomputable def keyS(H:Heap)(c:Cell)(p:Pair)(q:List Bool×List Int):List Bool×List Int:=if KeyW c then mkW H q p.key else q
noncomputable def valS(H:Heap)(c:Cell)(p:Pair)(q:List Bool×List Int):List Bool×List Int:=if ValW c∧Hit H q.1 p.key then mkW H q p.val else q
theorem keyS_ok{H:Heap}{c:Cell}{p:Pair}{q:List Bool×List Int}(h:Mk H (Held H) q)(hk:KeyW c→∀j,H.tgt p.key=some j→j<H.cells.length∧Held H j):Mk H (Held H) (keyS H c p q)∧Grow q (keyS H c p q)∧Same q (keyS H c p q)∧(KeyW c→Hit H (keyS H c p q).1 p.key):=by
 unfold keyS
 by_cases hK:KeyW c
 ·rw[if_pos hK]
  obtain⟨a,b,d⟩:=mkW_ok h (hk hK)
  exact⟨a,b,mkW_same _ _ _,fun _=>d⟩
 ·rw[if_neg hK]
  exact⟨h,Grow.refl _,.inl rfl,fun h=>absurd h hK⟩
theorem valS_ok{H:Heap}{c:Cell}{p:Pair}{q:List Bool×List Int}(h:Mk H (Held H) q)(hk:ValW c→Hit H q.1 p.key→∀j,H.tgt p.val=some j→j<H.cells.length∧Held H j):Mk H (Held H) (valS H c p q)∧Grow q (valS H c p q)∧Same q (valS H c p q)∧(ValW c→Hit H q.1 p.key→Hit H (valS H c p q).1 p.val):=by
 unfold valS
 by_cases hK:ValW c∧Hit H q.1 p.key
 ·rw[if_pos hK]
  obtain⟨a,b,d⟩:=mkW_ok h (hk hK.1 hK.2)
  exact⟨a,b,mkW_same _ _ _,fun _ _=>d⟩
 ·rw[if_neg hK]
  exact⟨h,Grow.refl _,.inl rfl,fun h h'=>absurd ⟨h,h'⟩ hK⟩
theorem holds_next{H:Heap}{s q:List Bool×List Int}{c:Cell}{k:Nat}{p:Pair}(gp:c.pairs[k]?=some p)(hv1:Mk H (Held H) q)(hv2:Grow s q)(hv3:Same s q)
 (hv4:q=s→∀p,p∈c.pairs.take k→(KeyW c→Hit H s.1 p.key)∧(ValW c→Hit H s.1 p.key→Hit H s.1 p.val))
 (hk:KeyW c→∀j,H.tgt p.key=some j→j<H.cells.length∧Held H j) (hw:ValW c→Hit H (keyS H c p q).1 p.key→∀j,H.tgt p.val=some j→j<H.cells.length∧Held H j):
 Mk H (Held H) (valS H c p (keyS H c p q))∧Grow s (valS H c p (keyS H c p q))∧Same s (valS H c p (keyS H c p q))∧
 (valS H c p (keyS H c p q)=s→∀p',p'∈c.pairs.take (k+1)→(KeyW c→Hit H s.1 p'.key)∧(ValW c→Hit H s.1 p'.key→Hit H s.1 p'.val)):=by
 obtain⟨a1,a2,a3,a4⟩:=keyS_ok hv1 hk
 obtain⟨b1,b2,b3,b4⟩:=valS_ok a1 hw
 refine⟨b1,(hv2.trans a2).trans b2,(hv3.trans a3 a2.len hv2.len).trans b3 b2.len (hv2.trans a2).len,fun e p' hp'=>?_⟩
 have l1:=hv2.len
 have l2:=a2.len
 have l3:=b2.len
 have el:(valS H c p (keyS H c p q)).2.length=s.2.length:=by rw[e]
 have e1:q=s:=by
  rcases hv3 with h|h
  ·exact h
  ·omega
 have e2:keyS H c p q=s:=by
  rcases a3 with h|h
  ·rw[h];exact e1
  ·omega
 rw[List.take_add_one,List.mem_append]at hp'
 rcases hp' with hp'|hp'
 ·exact hv4 e1 p' hp'
 ·rw[gp]at hp'
  simp only[Option.toList_some,List.mem_singleton]at hp'
  subst hp'
  rw[e2]at a4 b4
  have e3:valS H c p' s=s:=by rw[←e2];rw[e];exact e2.symm
  rw[e3]at b4
  exact⟨a4,b4⟩
theorem l2holds_a{m:Mem}{a:Nat}{x:HX}(h:Has m (hp a x))(h1:R1 x.H)(h2:R2 x.H)(h4:R4 x.H):FnA Tryz.prog 62 [ptr a] [ro m] (fun v As=>∃(sd:D),v=.slice sd.a (heldL x.H).length sd.cap∧As=[slA 1 bv sd (heldL x.H),ro m]):=by
 have hb0:=h.lens
 have hl:=x.len
 have hc1:=h1.cells
 have hc2:=h1.room
 refine fnA_of (fun h=>fn62 (by simp) h) ?_
 repeat' (first
  |(refine k_L ?_;first|refine a_p rfl ?_|(refine k_l ?_;refine g_l rfl ?_)|(refine a_mk (f:=bv) (n:=(x.xs.length:Int)) (k:=(x.xs.length:Int)) false (fun _=>rfl) rfl rfl rfl (by omega) (by omega) (fun sd hsd=>?_)))
  |refine a_n ?_
  |(refine k_V ?_;first|refine v_seq ?_|refine v_reg ?_)
  |refine s_n ?_)
 have hm0:=mk0 x.H (Held x.H)
 rw[hl]at hm0
 refine VA.ent (ent_new (f:=iv) (size:=1)) ?_
 have hreg:∀w,w∈x.H.regs→∀j,x.H.tgt w=some j→j<x.H.cells.length∧Held x.H j:=fun w hw j hj=>⟨(tgt_lt h2 (h4.regs w hw).1 hj).1,.reg hw hj⟩
 refine g_range x.regs.length (fun q:PQ=>[(0,.v (ptr a)),(3,.v (.slice sd.a x.xs.length sd.cap)),(4,.v (.slice q.2.a q.1.2.length q.2.cap)),(24,.v (.slice x.rd.a x.regs.length x.rd.cap))]) (fun q=>sqA sd q.2 q.1++[ro m])
  (fun i q=>MkA x.H (Held x.H) q.1∧∀w,w∈x.H.regs.take i→Hit x.H q.1.1 w) (((List.replicate x.xs.length false,[]),⟨none,0⟩):PQ) ⟨hm0,by simp⟩ (fun i q hi hv=>?_) (fun q hv=>?_) (hent:=Pm.ent pmt)
 ·obtain⟨w,gw⟩:∃w,x.regs[i]?=some w:=⟨_,List.getElem?_eq_getElem hi⟩
  have hwm:w∈x.H.regs:=List.mem_of_getElem? gw
  obtain⟨n1,n2,n3⟩:=hv.1.next (hreg w hwm)
  repeat' (first
   |(refine k_L ?_;first|refine a_p rfl ?_|(refine k_i ?_;refine g_i rfl rfl ?_)|(refine k_ls ?_;refine g_ls rfl ?_)|(refine k_st ?_;refine g_sw rfl rfl rfl rfl (Nat.le_of_ble_eq_true rfl) ?_)|(refine k_al ?_;refine a_al ?_))
   |refine a_n ?_
   |(refine k_V ?_;first|refine v_seq ?_|refine v_reg ?_)
   |refine sk_zero ?_
   |refine sk_succ ?_
   |refine wk_nil ?_
   |refine wk_cons ?_)
  refine g_c rfl (l2mark_n (sd:=sd) (kd:=q.2) (w:=w) (s:=q.1) (S:=Held x.H) h h1 h2 (h4.regs w hwm).1 hv.1.ok (hv.1.ok.len.trans hl)) (fun v As' hq=>?_)
  obtain⟨kd',rfl,rfl⟩:=hq
  repeat' (first
   |(refine k_L ?_;refine a_p rfl ?_)
   |refine a_n ?_)
  refine r_nx ((mkW x.H q.1 w,kd'):PQ) ⟨n1,fun w' hw'=>?_⟩ (he:=Pm.ent pmt)
  rw[List.take_add_one,List.mem_append]at hw'
  rcases hw' with hw'|hw'
  ·exact(hv.2 w' hw').grow n2
  ·rw[show x.H.regs[i]?=some w from gw]at hw'
   simp only[Option.toList_some,List.mem_singleton]at hw'
   subst hw';exact n3
 ·obtain⟨hv1,hv2⟩:=hv
  rw[List.take_of_length_le (by exact Nat.le_refl _)]at hv2
  repeat' (first
   |(refine k_L ?_;first|refine a_p rfl ?_|(refine k_l ?_;refine g_l rfl ?_))
   |refine a_n ?_
   |(refine k_V ?_;first|refine v_seq ?_|refine v_reg ?_)
   |refine s_n ?_)
  refine g_range x.xs.length (fun q:PQ=>[(0,.v (ptr a)),(3,.v (.slice sd.a x.xs.length sd.cap)),(4,.v (.slice q.2.a q.1.2.length q.2.cap)),(39,.v (.slice x.cd.a x.xs.length x.cd.cap))]) (fun q=>sqA sd q.2 q.1++[ro m])
   (fun i q=>MkA x.H (Held x.H) q.1∧(∀w,w∈x.H.regs→Hit x.H q.1.1 w)∧∀(j:Nat) c,j<i→x.H.cells[j]?=some c→c.last=2→q.1.1[j]?=some true) q ⟨hv1,hv2,fun j c hj=>by omega⟩ (fun i q hi hv=>?_) (fun q hv=>?_) (hent:=Pm.ent pmt)
  ·obtain⟨hv1,hv2,hv3⟩:=hv
   obtain⟨y,gy,gc⟩:=HX.at hi
   by_cases hr:y.c.last=2
   ·have hst:=last2 h2 gc hr
    obtain⟨n1,n2,n3⟩:=hv1.next (w:=⟨2,0,i⟩) (fun j hj=>by
     rw[tgt_root gc hst]at hj
     cases hj
     exact⟨by omega,.due gc hr⟩)
    repeat' (first
     |(refine k_L ?_;first|refine a_p rfl ?_|(refine k_i ?_;refine g_i rfl rfl ?_)|(refine k_ls ?_;refine g_ls rfl ?_)|(refine k_st ?_;refine g_sw rfl rfl rfl rfl (Nat.le_of_ble_eq_true rfl) ?_)|(refine k_al ?_;refine a_al ?_))
     |refine a_n ?_
     |(refine k_V ?_;first|refine v_seq ?_|refine v_reg ?_|(refine v_cd rfl (fun hb=>?_) (fun hb=>?_)<;>try(exfalso;omega)))
     |refine sk_zero ?_
     |refine sk_succ ?_
     |refine wk_nil ?_
     |refine wk_cons ?_)
    ·refine g_c rfl (l2mark_n (sd:=sd) (kd:=q.2) (w:=⟨2,0,i⟩) (s:=q.1) (S:=Held x.H) h h1 h2 (formed_at (by omega)) hv1.ok (hv1.ok.len.trans hl)) (fun v As' hq=>?_)
     obtain⟨kd',rfl,rfl⟩:=hq
     repeat' (first
      |(refine k_L ?_;refine a_p rfl ?_)
      |refine a_n ?_)
     refine r_nx ((mkW x.H q.1 ⟨2,0,i⟩,kd'):PQ) ⟨n1,fun w' hw'=>(hv2 w' hw').grow n2,fun j c hj hc hl2=>?_⟩ (he:=Pm.ent pmt)
     by_cases e:j=i
     ·subst e
      exact n3 j (tgt_root gc hst)
     ·exact n2.mono j (hv3 j c (by omega) hc hl2)
   ·repeat' (first
     |(refine k_L ?_;first|refine a_p rfl ?_|(refine k_i ?_;refine g_i rfl rfl ?_)|(refine k_ls ?_;refine g_ls rfl ?_)|(refine k_st ?_;refine g_sw rfl rfl rfl rfl (Nat.le_of_ble_eq_true rfl) ?_)|(refine k_al ?_;refine a_al ?_))
     |refine a_n ?_
     |(refine k_V ?_;first|refine v_seq ?_|refine v_reg ?_|refine v_skip ?_|(refine v_cd rfl (fun hb=>?_) (fun hb=>?_)<;>try(exfalso;omega)))
     |refine sk_zero ?_
     |refine sk_succ ?_
     |refine wk_nil ?_
     |refine wk_cons ?_)
    refine r_nx q ⟨hv1,hv2,fun j c hj hc hl2=>?_⟩ (he:=Pm.ent pmt)
    by_cases e:j=i
    ·subst e;rw[gc]at hc;cases hc;exact absurd hl2 hr
    ·exact hv3 j c (by omega) hc hl2
  ·obtain⟨hv1,hv2,hv3⟩:=hv
   have hfull:HFull x.H q.1.1:=⟨hv2,fun i c hc hr=>hv3 i c (by have:=(List.getElem?_eq_some_iff.1 hc).1;omega) hc hr⟩
   have hall:=hv1.all
   have hok:=hv1.ok
   clear hv1 hv2 hv3
   repeat' (first
    |(refine k_L ?_;refine a_p rfl ?_)
    |refine a_n ?_
    |(refine k_V ?_;first|refine v_seq ?_|refine v_reg ?_))
   refine v_blk ?_
   refine v_loop (fun q:PQ×Int=>[(0,.v (ptr a)),(3,.v (.slice sd.a x.xs.length sd.cap)),(4,.v (.slice q.1.2.a q.1.1.2.length q.1.2.cap)),(9,.v (.int .i64 q.2))]) (fun q=>sqA sd q.1.2 q.1.1++[ro m])
    (fun k q=>k=2*(x.xs.length-q.1.1.2.length)+(if q.2=q.1.1.2.length then 0 else 1)∧MkA x.H (Held x.H) q.1.1∧HFull x.H q.1.1.1∧(q.2=q.1.1.2.length→∀(i:Nat) c,q.1.1.1[i]?=some true→x.H.cells[i]?=some c→RuleC x.H q.1.1.1 c))
    ⟨_,(q,-1),⟨rfl,rfl,rfl,rfl,trivial⟩,Pm.ent pmt,rfl,⟨hok,hall⟩,hfull,fun e=>by dsimp only at e;omega⟩ ?_
   clear hok hfull hall
   rintro k ⟨⟨s0,kd0⟩,bf⟩ ⟨rfl,hma,hfull,hend⟩
   dsimp only at hma hfull hend⊢
   have hcnt0:=hma.ok.cnt
   by_cases hbf:bf=(s0.2.length:Int)
   ·have e:=held_end hma.ok hfull (hend hbf)
    repeat' (first
     |(refine k_L ?_;refine a_p rfl ?_)
     |refine a_n ?_
     |(refine k_V ?_;first|refine v_seq ?_|refine v_reg ?_|refine v_ret ?_|refine v_exit ?_|(refine v_cn rfl (fun hb=>?_) (fun hb=>?_)<;>try(exfalso;omega))))
    exact fa_r (As':=[slA 1 bv sd (heldL x.H),ro m]) (fun _ _=>rfl) (by rw[←e];exact Pm.ent pmt) ⟨sd,by rw[heldL_len,hl],rfl⟩
   ·repeat' (first
     |(refine k_L ?_;refine a_p rfl ?_)
     |refine a_n ?_
     |(refine k_V ?_;first|refine v_seq ?_|refine v_reg ?_|refine v_bs ?_|refine v_skip ?_|(refine v_cn rfl (fun hb=>?_) (fun hb=>?_)<;>try(exfalso;omega)))
     |refine s_n ?_)
    refine v_blk ?_
    refine v_loop (fun q:PQ×Nat=>[(0,.v (ptr a)),(3,.v (.slice sd.a x.xs.length sd.cap)),(4,.v (.slice q.1.2.a q.1.1.2.length q.1.2.cap)),(9,.v (.int .i64 s0.2.length)),(10,.v (.int .i64 q.2))]) (fun q=>sqA sd q.1.2 q.1.1++[ro m])
     (fun k q=>k=2*q.1.1.1.count false+q.1.1.2.length-q.2∧q.2≤q.1.1.2.length∧Mk x.H (Held x.H) q.1.1∧Grow s0 q.1.1∧Same s0 q.1.1∧Calm x.H s0 q.1.1 q.2)
     ⟨_,((s0,kd0),0),⟨rfl,rfl,rfl,rfl,rfl,trivial⟩,Pm.ent pmt,rfl,Nat.zero_le _,hma.ok,Grow.refl _,.inl rfl,fun _ k j c hk=>by dsimp only at hk;omega⟩ ?_
    rintro k ⟨⟨s,kd⟩,hd⟩ ⟨rfl,hle,hok,hgr,hsm,hcalm⟩
    dsimp only at hle hok hgr hsm hcalm⊢
    have hcnt:=hok.cnt
    have hgl:=hgr.len
    by_cases hlt:hd<s.2.length
    ·obtain⟨g,gg⟩:∃g,s.2[hd]?=some g:=⟨_,List.getElem?_eq_getElem hlt⟩
     obtain⟨j,rfl,hj⟩:=hok.stk g (List.mem_of_getElem? gg)
     have hjl:j<x.xs.length:=by
      have:=(List.getElem?_eq_some_iff.1 hj).1
      have:=hok.len
      omega
     obtain⟨y,gy,gc⟩:=HX.at hjl
     have hpl:=h2.pl (List.mem_of_getElem? gc)
     have hpr:=h4.pairs j y.c gc
     have hHj:=hok.snd j hj
     repeat' (first
      |(refine k_L ?_;first|refine a_p rfl ?_|(refine k_l ?_;refine g_l rfl ?_)|(refine k_i ?_;refine g_i rfl rfl ?_)|(refine k_ls ?_;refine g_ls rfl ?_)|(refine k_st ?_;refine g_sw rfl rfl rfl rfl (Nat.le_of_ble_eq_true rfl) ?_)|(refine k_al ?_;refine a_al ?_))
      |refine a_n ?_
      |(refine k_V ?_;first|refine v_seq ?_|refine v_reg ?_|refine v_dreg ?_|refine v_bs ?_|refine v_skip ?_|(refine v_cd rfl (fun hb=>?_) (fun hb=>?_)<;>try(exfalso;omega)))
      |refine s_n ?_
      |refine sk_zero ?_
      |refine sk_succ ?_
      |refine wk_nil ?_
      |refine wk_cons ?_)
     refine g_range y.c.pairs.length (fun q:PQ=>[(0,.v (ptr a)),(3,.v (.slice sd.a x.xs.length sd.cap)),(4,.v (.slice q.2.a q.1.2.length q.2.cap)),(9,.v (.int .i64 s0.2.length)),(10,.v (.int .i64 hd)),(11,.box (csw y)),(79,.v (.slice y.d.a y.c.pairs.length y.d.cap))]) (fun q=>sqA sd q.2 q.1++[ro m])
      (fun k q=>Mk x.H (Held x.H) q.1∧Grow s q.1∧Same s q.1∧(q.1=s→∀p,p∈y.c.pairs.take k→(KeyW y.c→Hit x.H s.1 p.key)∧(ValW y.c→Hit x.H s.1 p.key→Hit x.H s.1 p.val))) ((s,kd):PQ) ⟨hok,Grow.refl _,.inl rfl,fun _=>by simp⟩ (fun k q hk hv=>?_) (fun q hv=>?_) (hent:=Pm.ent pmt)
     ·obtain⟨p,gp⟩:∃p,y.c.pairs[k]?=some p:=⟨_,List.getElem?_eq_getElem hk⟩
      have hpm:=List.mem_of_getElem? gp
      obtain⟨hv1,hv2,hv3,hv4⟩:=hv
      obtain⟨k1,v1,_⟩:=hpr k p gp
      have ck:KeyW y.c→∀j,x.H.tgt p.key=some j→j<x.H.cells.length∧Held x.H j:=fun hK j' hj'=>⟨(tgt_lt h2 k1 hj').1,.key hHj gc hpm hK hj'⟩
      have cv:ValW y.c→Hit x.H (keyS x.H y.c p q.1).1 p.key→∀j,x.H.tgt p.val=some j→j<x.H.cells.length∧Held x.H j:=fun hV hH j' hj'=>
       ⟨(tgt_lt h2 v1 hj').1,.val hHj gc hpm hV (fun i hi=>(keyS_ok hv1 ck).1.snd i (hH i hi)) hj'⟩
      obtain⟨n1,n2,n3,n4⟩:=holds_next gp hv1 hv2 hv3 hv4 ck cv
      obtain⟨a1,a2,_,_⟩:=keyS_ok (q:=q.1) hv1 ck
      refine v_seq ?_
      repeat' (first
       |(refine k_L ?_;first|(refine k_i ?_;refine g_i rfl rfl ?_)|(refine k_ls ?_;refine g_ls rfl ?_)|(refine k_st ?_;refine g_sw rfl rfl rfl rfl (Nat.le_of_ble_eq_true rfl) ?_)|(refine k_al ?_;refine a_al ?_))
       |refine a_n ?_
       |(refine k_V ?_;refine v_reg ?_)
       |refine s_n ?_
       |refine sk_zero ?_
       |refine sk_succ ?_
       |refine wk_nil ?_
       |refine wk_cons ?_)
      refine g_cut (fun q2:PQ=>[(0,.v (ptr a)),(3,.v (.slice sd.a x.xs.length sd.cap)),(4,.v (.slice q2.2.a q2.1.2.length q2.2.cap)),(9,.v (.int .i64 s0.2.length)),(10,.v (.int .i64 hd)),(11,.box (csw y)),(13,.box (pv p)),(79,.v (.slice y.d.a y.c.pairs.length y.d.cap)),(80,.v (.int .i64 y.c.pairs.length)),(81,.v (.int .i64 k))]) (fun q2=>sqA sd q2.2 q2.1++[ro m]) (fun q2=>q2.1=keyS x.H y.c p q.1) ?_ (fun q2 hq2=>?_)
      ·by_cases hK:KeyW y.c
       ·have hkw:=hK
        unfold KeyW at hkw
        repeat' (first
         |(refine k_L ?_;refine a_p rfl ?_)
         |refine a_n ?_
         |(refine k_V ?_;first|refine v_seq ?_|refine v_reg ?_|(refine v_cd rfl (fun hb=>?_) (fun hb=>?_)<;>try(exfalso;omega))))
        refine g_c rfl (l2mark_n (sd:=sd) (kd:=q.2) (w:=p.key) (s:=q.1) (S:=Held x.H) h h1 h2 k1 hv1 (hv1.len.trans hl)) (fun v As' hq=>?_)
        obtain⟨kd',rfl,rfl⟩:=hq
        repeat' (first
         |(refine k_L ?_;refine a_p rfl ?_)
         |refine a_n ?_
         |refine s_n ?_)
        exact j_i ((mkW x.H q.1 p.key,kd'):PQ) (by unfold keyS;rw[if_pos hK])
       ·have hkw:=hK
        unfold KeyW at hkw
        repeat' (first
         |(refine k_L ?_;refine a_p rfl ?_)
         |refine a_n ?_
         |(refine k_V ?_;first|refine v_seq ?_|refine v_reg ?_|refine v_skip ?_|(refine v_cd rfl (fun hb=>?_) (fun hb=>?_)<;>try(exfalso;omega)))
         |refine s_n ?_)
        exact j_i q (by unfold keyS;rw[if_neg hK])
      ·obtain⟨q2,kd2⟩:=q2
       dsimp only at hq2⊢
       subst hq2
       have hat:=fun hk2=>k1.at hk2
       have yes:∀hH:Hit x.H (keyS x.H y.c p q.1).1 p.key,∀hV:ValW y.c,valS x.H y.c p (keyS x.H y.c p q.1)=mkW x.H (keyS x.H y.c p q.1) p.val:=fun hH hV=>by unfold valS;rw[if_pos ⟨hV,hH⟩]
       have nay:¬(ValW y.c∧Hit x.H (keyS x.H y.c p q.1).1 p.key)→valS x.H y.c p (keyS x.H y.c p q.1)=keyS x.H y.c p q.1:=fun hn=>by unfold valS;rw[if_neg hn]
       have a3:=a1.len.trans hl
       by_cases hk2:p.key.kind=2
       ·have ht:x.H.tgt p.key=some (x.H.lead p.key).at_.toNat:=by unfold Heap.tgt;rw[if_pos (lead_kind.2 hk2)]
        have hlt:=tgt_lt h2 k1 ht
        generalize(x.H.lead p.key).at_.toNat=kk at ht hlt
        have e:x.H.lead p.key=⟨2,(x.H.lead p.key).num,(kk:Int)⟩:=by rw[←hlt.2.1,←hlt.2.2]
        obtain⟨b,gb⟩:∃b,(keyS x.H y.c p q.1).1[kk]?=some b:=⟨_,List.getElem?_eq_getElem (by rw[a1.len];exact hlt.1)⟩
        have hHb:Hit x.H (keyS x.H y.c p q.1).1 p.key↔b=true:=by
         constructor
         ·intro hH
          have:=hH kk ht
          rw[gb]at this;simpa using this
         ·intro hb j' hj'
          rw[ht]at hj';cases hj'
          rw[gb,hb]
        by_cases hV:ValW y.c
        ·have hvw:=hV
         unfold ValW at hvw
         cases b with
         |true=>
          rw[yes (hHb.2 rfl) hV]at n1 n2 n3 n4
          repeat' (first
           |(refine k_L ?_;first|refine a_p rfl ?_|(refine k_g ?_;first|refine a_gy rfl rfl ?_|(refine a_gd rfl (fun hb=>?_) (fun hb=>?_)<;>try(exfalso;omega)))|(refine k_l ?_;refine g_l rfl ?_)|(refine k_i ?_;refine g_i rfl rfl ?_)|(refine k_st ?_;refine g_sw rfl rfl rfl rfl (Nat.le_of_ble_eq_true rfl) ?_)|(refine k_al ?_;refine a_al ?_)|(refine k_c ?_;refine a_cq rfl (fun m hm=>qt_e (l1resolve_q (has_g h hm) hat) (congrArg wa e)) ?_))
           |refine a_n ?_
           |(refine k_V ?_;first|refine v_seq ?_|refine v_reg ?_|refine v_ct rfl ?_)
           |refine sk_zero ?_
           |refine sk_succ ?_
           |refine wk_nil ?_
           |refine wk_cons ?_)
          refine g_c rfl (l2mark_n (sd:=sd) (kd:=kd2) (w:=p.val) (s:=keyS x.H y.c p q.1) (S:=Held x.H) h h1 h2 v1 a1 a3) (fun v As' hq=>?_)
          obtain⟨kd',rfl,rfl⟩:=hq
          repeat' (first
           |(refine k_L ?_;refine a_p rfl ?_)
           |refine a_n ?_)
          exact r_nx ((mkW x.H (keyS x.H y.c p q.1) p.val,kd'):PQ) ⟨n1,n2,n3,n4⟩ (he:=Pm.ent pmt)
         |false=>
          rw[nay (fun h=>by have:=hHb.1 h.2;cases this)]at n1 n2 n3 n4
          repeat' (first
           |(refine k_L ?_;first|refine a_p rfl ?_|(refine k_g ?_;first|refine a_gy rfl rfl ?_|(refine a_gd rfl (fun hb=>?_) (fun hb=>?_)<;>try(exfalso;omega)))|(refine k_l ?_;refine g_l rfl ?_)|(refine k_i ?_;refine g_i rfl rfl ?_)|(refine k_st ?_;refine g_sw rfl rfl rfl rfl (Nat.le_of_ble_eq_true rfl) ?_)|(refine k_al ?_;refine a_al ?_)|(refine k_c ?_;refine a_cq rfl (fun m hm=>qt_e (l1resolve_q (has_g h hm) hat) (congrArg wa e)) ?_))
           |refine a_n ?_
           |(refine k_V ?_;first|refine v_seq ?_|refine v_reg ?_|refine v_skip ?_|refine v_cf rfl ?_)
           |refine sk_zero ?_
           |refine sk_succ ?_
           |refine wk_nil ?_
           |refine wk_cons ?_)
          exact r_nx ((keyS x.H y.c p q.1,kd2):PQ) ⟨n1,n2,n3,n4⟩ (he:=Pm.ent pmt)
        ·have hvw:=hV
         unfold ValW at hvw
         rw[nay (fun h=>hV h.1)]at n1 n2 n3 n4
         repeat' (first
          |(refine k_L ?_;first|refine a_p rfl ?_|(refine k_g ?_;first|refine a_gn rfl rfl ?_|refine a_gu rfl ?_|(refine a_gd rfl (fun hb=>?_) (fun hb=>?_)<;>try(exfalso;omega)))|(refine k_st ?_;refine g_sw rfl rfl rfl rfl (Nat.le_of_ble_eq_true rfl) ?_)|(refine k_al ?_;refine a_al ?_)|(refine k_c ?_;refine a_cq rfl (fun m hm=>qt_e (l1resolve_q (has_g h hm) hat) (congrArg wa e)) ?_))
          |refine a_n ?_
          |(refine k_V ?_;first|refine v_seq ?_|refine v_reg ?_|refine v_skip ?_|refine v_cf rfl ?_)
          |refine sk_zero ?_
          |refine sk_succ ?_
          |refine wk_nil ?_
          |refine wk_cons ?_)
         exact r_nx ((keyS x.H y.c p q.1,kd2):PQ) ⟨n1,n2,n3,n4⟩ (he:=Pm.ent pmt)
       ·have ht:x.H.tgt p.key=none:=by unfold Heap.tgt;rw[if_neg (fun h=>hk2 (lead_kind.1 h))]
        have hk3:¬(x.H.lead p.key).kind=2:=fun h=>hk2 (lead_kind.1 h)
        have hH:Hit x.H (keyS x.H y.c p q.1).1 p.key:=fun j' hj'=>by rw[ht]at hj';cases hj'
        by_cases hV:ValW y.c
        ·have hvw:=hV
         unfold ValW at hvw
         rw[yes hH hV]at n1 n2 n3 n4
         repeat' (first
          |(refine k_L ?_;first|refine a_p rfl ?_|(refine k_g ?_;first|refine a_gy rfl rfl ?_|refine a_gn rfl rfl ?_|(refine a_gd rfl (fun hb=>?_) (fun hb=>?_)<;>try(exfalso;omega))|(refine a_gne rfl (fun hb=>?_) (fun hb=>?_)<;>try(exfalso;omega)))|(refine k_st ?_;refine g_sw rfl rfl rfl rfl (Nat.le_of_ble_eq_true rfl) ?_)|(refine k_al ?_;refine a_al ?_)|(refine k_c ?_;refine a_cq rfl (fun m hm=>l1resolve_q (has_g h hm) hat) ?_))
          |refine a_n ?_
          |(refine k_V ?_;first|refine v_seq ?_|refine v_reg ?_|refine v_ct rfl ?_)
          |refine sk_zero ?_
          |refine sk_succ ?_
          |refine wk_nil ?_
          |refine wk_cons ?_)
         refine g_c rfl (l2mark_n (sd:=sd) (kd:=kd2) (w:=p.val) (s:=keyS x.H y.c p q.1) (S:=Held x.H) h h1 h2 v1 a1 a3) (fun v As' hq=>?_)
         obtain⟨kd',rfl,rfl⟩:=hq
         repeat' (first
          |(refine k_L ?_;refine a_p rfl ?_)
          |refine a_n ?_)
         exact r_nx ((mkW x.H (keyS x.H y.c p q.1) p.val,kd'):PQ) ⟨n1,n2,n3,n4⟩ (he:=Pm.ent pmt)
        ·have hvw:=hV
         unfold ValW at hvw
         rw[nay (fun h=>hV h.1)]at n1 n2 n3 n4
         repeat' (first
          |(refine k_L ?_;first|refine a_p rfl ?_|(refine k_g ?_;first|refine a_gn rfl rfl ?_|refine a_gu rfl ?_|(refine a_gd rfl (fun hb=>?_) (fun hb=>?_)<;>try(exfalso;omega)))|(refine k_st ?_;refine g_sw rfl rfl rfl rfl (Nat.le_of_ble_eq_true rfl) ?_)|(refine k_al ?_;refine a_al ?_)|(refine k_c ?_;refine a_cq rfl (fun m hm=>l1resolve_q (has_g h hm) hat) ?_))
          |refine a_n ?_
          |(refine k_V ?_;first|refine v_seq ?_|refine v_reg ?_|refine v_skip ?_|refine v_cf rfl ?_)
          |refine sk_zero ?_
          |refine sk_succ ?_
          |refine wk_nil ?_
          |refine wk_cons ?_)
         exact r_nx ((keyS x.H y.c p q.1,kd2):PQ) ⟨n1,n2,n3,n4⟩ (he:=Pm.ent pmt)
     ·obtain⟨hv1,hv2,hv3,hv4⟩:=hv
      rw[List.take_of_length_le (Nat.le_refl _)]at hv4
      have hgl2:=hv2.len
      have hmsr:=hv2.msr
      repeat' (first
       |(refine k_L ?_;first|(refine k_ad ?_;refine g_ad rfl rfl ?_)|refine a_p rfl ?_)
       |refine a_n ?_
       |(refine k_V ?_;refine v_reg ?_)
       |refine s_n ?_)
      refine⟨_,(q,hd+1),?_,⟨rfl,rfl,rfl,rfl,rfl,trivial⟩,Pm.ent pmt,rfl,?_,hv1,hgr.trans hv2,hsm.trans hv3 hgl2 hgl,fun e k' j' c hk' hg' hc'=>?_⟩
      ·dsimp only;omega
      ·dsimp only;omega
      ·dsimp only at e hk'
       have es:s=s0:=by
        rcases hsm with h'|h'
        ·exact h'
        ·exfalso;rw[e]at hgl2;omega
       subst es
       by_cases ek:k'=hd
       ·subst ek
        rw[gg]at hg'
        have:j'=j:=by have:=Option.some.inj hg';omega
        subst this
        rw[gc]at hc';cases hc'
        exact fun p hp=>hv4 e p hp
       ·exact hcalm rfl k' j' c (by omega) hg' hc'
    ·repeat' (first
      |(refine k_L ?_;refine a_p rfl ?_)
      |refine a_n ?_
      |(refine k_V ?_;first|refine v_seq ?_|refine v_reg ?_|refine v_exit ?_|(refine v_cd rfl (fun hb=>?_) (fun hb=>?_)<;>try(exfalso;omega)))
      |refine s_n ?_
      |refine s_e ?_
      |refine b_n ?_
      |refine b_e ?_)
     refine⟨_,((s,kd),(s0.2.length:Int)),?_,⟨rfl,rfl,rfl,rfl,trivial⟩,Pm.ent pmt,rfl,⟨hok,fun j hj=>?_⟩,⟨fun w hw=>(hfull.regs w hw).grow hgr,fun i c hc hl2=>hgr.mono i (hfull.dues i c hc hl2)⟩,fun e i c hi hc=>?_⟩
     ·dsimp only
      rw[if_neg hbf]
      rcases hsm with rfl|hs
      ·rw[if_pos rfl];omega
      ·split<;>omega
     ·rcases hgr.new j hj with h'|h'
      ·exact hgr.old _ (hma.all j h')
      ·exact h'
     ·dsimp only at e hi⊢
      rcases hsm with rfl|hs
      ·obtain⟨k,hk⟩:=List.getElem?_of_mem (hma.all i hi)
       have hkl:=(List.getElem?_eq_some_iff.1 hk).1
       exact hcalm rfl k i c (by omega) hk hc
      ·omega
abbrev WE:=D×List Word
def wv0:WE:=(⟨none,0⟩,[])
def WE.sl(e:WE):Value:=.slice e.1.a e.2.length e.1.cap
def wtA(W:List WE):Asr:=star (W.map fun e=>slA 3 wv e.1 e.2)
def wmA(b:Nat)(W:List WE):Asr:=fun m=>∃g,mpA b g m∧∀(j:Nat) e,W[j]?=some e→(g j).getD (.slice none 0 0)=e.sl
theorem wt_out{W:List WE}{i:Nat}{e:WE}(hi:W[i]?=some e){m:Mem}(h:wtA W m):star [slA 3 wv e.1 e.2,wtA (W.eraseIdx i)] m:=by
 obtain⟨hlt,he⟩:=List.getElem?_eq_some_iff.1 hi
 have hp:=(erase_perm hlt).symm.map (fun e:WE=>slA 3 wv e.1 e.2)
 have:=star_perm hp h
 rw[he]at this
 obtain⟨a,b,d,e1,h1,h2⟩:=this
 exact star2.2 ⟨a,b,d,e1,h1,h2⟩
theorem wt_in{W:List WE}{i:Nat}{e':WE}(hi:i<W.length){m:Mem}(h:star [slA 3 wv e'.1 e'.2,wtA (W.eraseIdx i)] m):wtA (W.set i e') m:=by
 have hlt:i<(W.set i e').length:=by simpa using hi
 have hp:=(erase_perm hlt).map (fun e:WE=>slA 3 wv e.1 e.2)
 rw[List.getElem_set_self,List.eraseIdx_set_eq]at hp
 refine star_perm hp ?_
 obtain⟨a,b,d,e1,h1,h2⟩:=star2.1 h
 exact⟨a,b,d,e1,h1,h2⟩
theorem ent_wout{W:List WE}{i:Nat}{e:WE}{R:List Asr}(hi:W[i]?=some e):Ent (wtA W::R) (slA 3 wv e.1 e.2::wtA (W.eraseIdx i)::R):=ent_of fun m h=>by
 have:=star_cons_mono h (fun _ h=>wt_out hi h) (fun _ h=>h)
 exact star_in.1 this
theorem ent_win{W:List WE}{i:Nat}{e':WE}{R:List Asr}(hi:i<W.length):Ent (slA 3 wv e'.1 e'.2::wtA (W.eraseIdx i)::R) (wtA (W.set i e')::R):=ent_of fun m h=>by
 have:star (star [slA 3 wv e'.1 e'.2,wtA (W.eraseIdx i)]::R) m:=star_in.2 h
 exact star_cons_mono this (fun _ h=>wt_in hi h) (fun _ h=>h)
theorem sl_nil{α:Type}{f:α→List Value}{size:Nat}:slA size f ⟨none,0⟩ [] emp:=⟨.inl ⟨0,rfl,rfl,rfl⟩,fun _ _=>rfl⟩
theorem ent_wclr{W:List WE}{i:Nat}{R:List Asr}(hi:i<W.length):Ent (wtA (W.eraseIdx i)::R) (wtA (W.set i wv0)::R):=ent_h fun m h=>wt_in hi (star2.2 ⟨emp,m,fun _=>.inl rfl,rfl,sl_nil,h⟩)
theorem wt_nil:∀n:Nat,wtA (List.replicate n wv0) emp
 |0=>rfl
 |n+1=>⟨emp,emp,fun _=>.inl rfl,rfl,sl_nil,wt_nil n⟩
theorem ent_wnil{n:Nat}{R:List Asr}:Ent R (wtA (List.replicate n wv0)::R):=ent_of fun m h=>⟨emp,m,fun _=>.inl rfl,rfl,wt_nil n,h⟩
theorem ent_wm0{b n:Nat}{R:List Asr}:Ent (mpA b (fun _=>none)::R) (wmA b (List.replicate n wv0)::R):=ent_h fun m h=>⟨_,h,fun j e he=>by
 rw[List.getElem?_replicate]at he
 split at he
 ·cases he;rfl
 ·cases he⟩
theorem ent_wm{b:Nat}{g:Int→Option Value}{W:List WE}{R:List Asr}(hW:∀(j:Nat) e,W[j]?=some e→(g j).getD (.slice none 0 0)=WE.sl e):Ent (mpA b g::R) (wmA b W::R):=ent_h fun m h=>⟨g,h,hW⟩
theorem v_wm{E:Env}{c:C}{Q:X→St→List Asr→Prop}{S:St}{b:Nat}{W:List WE}{R:List Asr}(h:∀g:Int→Option Value,(∀(j:Nat) e,W[j]?=some e→(g j).getD (.slice none 0 0)=WE.sl e)→VA E c Q S (mpA b g::R)):VA E c Q S (wmA b W::R):=
 ⟨fun m hm=>by
   obtain⟨a,c,dj,e1,⟨g,hg,hW⟩,hR⟩:=hm
   exact(h g hW).out m ⟨a,c,dj,e1,hg,hR⟩⟩
theorem wm_clr{g:Int→Option Value}{W:List WE}{j:Nat}(hW:∀(j:Nat) e,W[j]?=some e→(g j).getD (.slice none 0 0)=WE.sl e):
 ∀(i:Nat) e,(W.set j wv0)[i]?=some e→((fun i:Int=>if i=(j:Int)then none else g i) i).getD (.slice none 0 0)=WE.sl e:=by
 intro i e he
 rw[List.getElem?_set]at he
 by_cases h:j=i
 ·subst h
  rw[if_pos rfl]at he
  split at he
  ·cases he;simp;rfl
  ·cases he
 ·rw[if_neg h]at he
  have:¬((i:Int)=(j:Int)):=by omega
  simp only[this,if_false]
  exact hW i e he
theorem wm_put{g:Int→Option Value}{W:List WE}{j:Nat}{e':WE}(hW:∀(j:Nat) e,W[j]?=some e→(g j).getD (.slice none 0 0)=WE.sl e):
 ∀(i:Nat) e,(W.set j e')[i]?=some e→((fun i:Int=>if i=(j:Int)then some (WE.sl e')else g i) i).getD (.slice none 0 0)=WE.sl e:=by
 intro i e he
 rw[List.getElem?_set]at he
 by_cases h:j=i
 ·subst h
  rw[if_pos rfl]at he
  split at he
  ·cases he;simp
  ·cases he
 ·rw[if_neg h]at he
  have:¬((i:Int)=(j:Int)):=by omega
  simp only[this,if_false]
  exact hW i e he
def PairOk(H:Heap)(seen:List Bool)(W:List WE)(c:Cell)(p:Pair):Prop:=
 (KeyW c→Hit H seen p.key)∧(ValW c→Hit H seen p.val∨∃k e,H.tgt p.key=some k∧W[k]?=some e∧p.val∈e.2)
structure HI (H:Heap) (s:List Bool×List Int) (W:List WE) (B:Nat) (pc:Nat) (ex ew:Nat→Prop):Prop where
 mk':Mk H (Held H) s
 pc:pc+s.2.length+s.1.count false≤H.cells.length
 wl:W.length=H.cells.length
 wlen:∀e,e∈W→e.2.length≤B
 wok:∀(k:Nat) e,W[k]?=some e→∀w,w∈e.2→Formed H w∧(Held H k→∀j,H.tgt w=some j→j<H.cells.length∧Held H j)
 rule:∀(i:Nat) c,s.1[i]?=some true→(i:Int)∉s.2→¬ex i→H.cells[i]?=some c→∀p,p∈c.pairs→PairOk H s.1 W c p
 empt:∀(k:Nat) e,W[k]?=some e→s.1[k]?=some true→(k:Int)∉s.2→¬ew k→e.2=[]
theorem PairOk.grow{H:Heap}{s t:List Bool×List Int}{W:List WE}{c:Cell}{p:Pair}(h:PairOk H s.1 W c p)(g:Grow s t):PairOk H t.1 W c p:=
 ⟨fun k=>(h.1 k).grow g,fun v=>(h.2 v).imp (fun h=>h.grow g) id⟩
theorem HI.mark{H:Heap}{s:List Bool×List Int}{W:List WE}{B pc:Nat}{ex ew:Nat→Prop}{w:Word}(h:HI H s W B pc ex ew)(hw:∀j,H.tgt w=some j→j<H.cells.length∧Held H j):HI H (mkW H s w) W B pc ex ew∧Grow s (mkW H s w)∧Hit H (mkW H s w).1 w:=by
 obtain⟨a,g,d⟩:=mkW_ok h.mk' hw
 have hn:∀i:Nat,(mkW H s w).1[i]?=some true→(i:Int)∉(mkW H s w).2→s.1[i]?=some true∧(i:Int)∉s.2:=fun i h1 h2=>⟨(g.new i h1).elim id fun h'=>absurd h' h2,fun h'=>h2 (g.old _ h')⟩
 refine⟨⟨a,?_,h.wl,h.wlen,h.wok,fun i c h1 h2 h3 h4 p hp=>(h.rule i c (hn i h1 h2).1 (hn i h1 h2).2 h3 h4 p hp).grow g,fun k e h1 h2 h3 h4=>h.empt k e h1 (hn k h2 h3).1 (hn k h2 h3).2 h4⟩,g,d⟩
 have:=h.pc
 unfold mkW
 split
 ·split
  ·rename_i j _ hs
   have:=count_set hs
   simp only[List.length_append,List.length_singleton]
   omega
  ·exact this
 ·exact this
theorem HI.weak{H:Heap}{s:List Bool×List Int}{W:List WE}{B B' pc:Nat}{ex ew:Nat→Prop}(h:HI H s W B pc ex ew)(hB:B≤B'):HI H s W B' pc ex ew:=⟨h.mk',h.pc,h.wl,fun e he=>Nat.le_trans (h.wlen e he) hB,h.wok,h.rule,h.empt⟩
theorem HI.pop{H:Heap}{seen:List Bool}{init:List Int}{j:Nat}{W:List WE}{B pc:Nat}(h:HI H (seen,init++[(j:Int)]) W B pc (fun _=>False) (fun _=>False)):HI H (seen,init) W B (pc+1) (fun i=>i=j) (fun i=>i=j):=by
 have hp:=h.pc
 simp only[List.length_append,List.length_singleton]at hp
 have hn:∀i:Nat,(i:Int)∉init→¬i=j→(i:Int)∉init++[(j:Int)]:=fun i h1 h2 h3=>by
  rcases List.mem_append.1 h3 with h3|h3
  ·exact h1 h3
  ·simp only[List.mem_singleton]at h3;omega
 refine⟨⟨h.mk'.len,h.mk'.snd,fun g hg=>h.mk'.stk g (by simp[hg]),?_⟩,?_,h.wl,h.wlen,h.wok,fun i c h1 h2 h3 h4 p hp'=>h.rule i c h1 (hn i h2 h3) (fun h=>h) h4 p hp',fun k e h1 h2 h3 h4=>h.empt k e h1 h2 (hn k h3 h4) (fun h=>h)⟩
 ·dsimp only;omega
 ·dsimp only;omega
theorem HI.clr{H:Heap}{s:List Bool×List Int}{W:List WE}{B pc j:Nat}{e:WE}(h:HI H s W B pc (fun i=>i=j) (fun i=>i=j))(he:W[j]?=some e)(hh:∀w,w∈e.2→Hit H s.1 w):HI H s (W.set j wv0) B pc (fun i=>i=j) (fun _=>False):=by
 have hjl:=(List.getElem?_eq_some_iff.1 he).1
 have hg:∀(k:Nat) e',(W.set j wv0)[k]?=some e'→(k=j∧e'=wv0)∨(k≠j∧W[k]?=some e'):=fun k e' h=>by
  rw[List.getElem?_set]at h
  by_cases hk:j=k
  ·subst hk
   rw[if_pos rfl,if_pos hjl]at h
   exact .inl ⟨rfl,(Option.some.inj h).symm⟩
  ·rw[if_neg hk]at h
   exact .inr ⟨fun e=>hk e.symm,h⟩
 refine⟨h.mk',h.pc,by simpa using h.wl,fun e' he'=>?_,fun k e' hk w hw=>?_,fun i c h1 h2 h3 h4 p hp=>?_,fun k e' hk h2 h3 _=>?_⟩
 ·obtain⟨k,hk⟩:=List.getElem?_of_mem he'
  rcases hg k e' hk with⟨_,rfl⟩|⟨_,h'⟩
  ·simp[wv0]
  ·exact h.wlen e' (List.mem_of_getElem? h')
 ·rcases hg k e' hk with⟨_,rfl⟩|⟨_,h'⟩
  ·simp[wv0]at hw
  ·exact h.wok k e' h' w hw
 ·obtain⟨r1,r2⟩:=h.rule i c h1 h2 h3 h4 p hp
  refine⟨r1,fun hv=>?_⟩
  rcases r2 hv with r|⟨k,e',ht,hk,hm⟩
  ·exact .inl r
  ·by_cases hkj:k=j
   ·subst hkj
    rw[he]at hk;cases hk
    exact .inl (hh _ hm)
   ·exact .inr ⟨k,e',ht,by rw[List.getElem?_set_ne (fun e=>hkj e.symm)];exact hk,hm⟩
 ·rcases hg k e' hk with⟨_,rfl⟩|⟨hne,h'⟩
  ·rfl
  ·exact h.empt k e' h' h2 h3 hne
theorem HI.wait{H:Heap}{s:List Bool×List Int}{W:List WE}{B pc k:Nat}{ex:Nat→Prop}{e:WE}{d:D}{w:Word}(h:HI H s W B pc ex (fun _=>False))(he:W[k]?=some e)(hs:s.1[k]?=some false)(hw:Formed H w∧(Held H k→∀j,H.tgt w=some j→j<H.cells.length∧Held H j)):
 HI H s (W.set k (d,e.2++[w])) (B+1) pc ex (fun _=>False)∧∀c p,PairOk H s.1 W c p→PairOk H s.1 (W.set k (d,e.2++[w])) c p:=by
 have hkl:=(List.getElem?_eq_some_iff.1 he).1
 have hg:∀(i:Nat) e',(W.set k (d,e.2++[w]))[i]?=some e'→(i=k∧e'=(d,e.2++[w]))∨(i≠k∧W[i]?=some e'):=fun i e' h=>by
  rw[List.getElem?_set]at h
  by_cases hk:k=i
  ·subst hk
   rw[if_pos rfl,if_pos hkl]at h
   exact .inl ⟨rfl,(Option.some.inj h).symm⟩
  ·rw[if_neg hk]at h
   exact .inr ⟨fun e=>hk e.symm,h⟩
 have hpo:∀c p,PairOk H s.1 W c p→PairOk H s.1 (W.set k (d,e.2++[w])) c p:=fun c p ⟨r1,r2⟩=>⟨r1,fun hv=>by
  rcases r2 hv with r|⟨i,e',ht,hi,hm⟩
  ·exact .inl r
  ·by_cases hik:i=k
   ·subst hik
    rw[he]at hi;cases hi
    exact .inr ⟨i,(d,e.2++[w]),ht,by rw[List.getElem?_set,if_pos rfl,if_pos hkl],List.mem_append_left _ hm⟩
   ·exact .inr ⟨i,e',ht,by rw[List.getElem?_set_ne (fun e=>hik e.symm)];exact hi,hm⟩⟩
 refine⟨⟨h.mk',h.pc,by simpa using h.wl,fun e' he'=>?_,fun i e' hi w' hw'=>?_,fun i c h1 h2 h3 h4 p hp=>hpo c p (h.rule i c h1 h2 h3 h4 p hp),fun i e' hi h2 h3 _=>?_⟩,hpo⟩
 ·obtain⟨i,hi⟩:=List.getElem?_of_mem he'
  rcases hg i e' hi with⟨_,rfl⟩|⟨_,h'⟩
  ·have:=h.wlen e (List.mem_of_getElem? he)
   simp;omega
  ·have:=h.wlen e' (List.mem_of_getElem? h');omega
 ·rcases hg i e' hi with⟨rfl,rfl⟩|⟨_,h'⟩
  ·rcases List.mem_append.1 hw' with hw'|hw'
   ·exact h.wok i e he w' hw'
   ·simp only[List.mem_singleton]at hw';subst hw';exact hw
  ·exact h.wok i e' h' w' hw'
 ·rcases hg i e' hi with⟨rfl,rfl⟩|⟨hne,h'⟩
  ·rw[hs]at h2;cases h2
  ·exact h.empt i e' h' h2 h3 (fun h=>h)
theorem HI.done{H:Heap}{s:List Bool×List Int}{W:List WE}{B pc j:Nat}{c:Cell}(h:HI H s W B pc (fun i=>i=j) (fun _=>False))(hc:H.cells[j]?=some c)(hp:∀p,p∈c.pairs→PairOk H s.1 W c p):HI H s W B pc (fun _=>False) (fun _=>False):=
 ⟨h.mk',h.pc,h.wl,h.wlen,h.wok,fun i c' h1 h2 _ h4 p hp'=>by
   by_cases e:i=j
   ·subst e;rw[hc]at h4;cases h4;exact hp p hp'
   ·exact h.rule i c' h1 h2 e h4 p hp',h.empt⟩
theorem HI.fin{H:Heap}{seen:List Bool}{W:List WE}{B pc:Nat}(h:HI H (seen,[]) W B pc (fun _=>False) (fun _=>False))(hf:HFull H seen):seen=heldL H:=
 held_end h.mk' hf fun i c hi hc p hp=>by
  obtain⟨r1,r2⟩:=h.rule i c hi (by simp) (fun h=>h) hc p hp
  refine⟨r1,fun hv hk=>?_⟩
  rcases r2 hv with r|⟨k,e,ht,he,hm⟩
  ·exact r
  ·have:=h.empt k e he (hk k ht) (by simp) (fun h=>h)
   rw[this]at hm;cases hm
theorem HI.init(H:Heap){s:List Bool×List Int}(h:MkA H (Held H) s):HI H s (List.replicate H.cells.length wv0) 0 0 (fun _=>False) (fun _=>False):=by
 have hw:∀(k:Nat) e,(List.replicate H.cells.length wv0)[k]?=some e→e=wv0:=fun k e he=>by
  rw[List.getElem?_replicate]at he
  split at he
  ·exact(Option.some.inj he).symm
  ·cases he
 have hc:=h.ok.cnt
 exact⟨h.ok,by omega,by simp,fun e he=>by obtain⟨k,hk⟩:=List.getElem?_of_mem he;rw[hw k e hk];simp[wv0],fun k e he w hw'=>(by rw[hw k e he]at hw';simp[wv0]at hw'),fun i c h1 h2=>absurd (h.all i h1) h2,fun k e he _ _ _=>(by rw[hw k e he];rfl)⟩
end Go.Proofs.YtpleoapljeffiaaGreatDoor.E
