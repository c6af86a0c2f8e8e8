/- A part of the proof. Conditions: none. -/
import Derived.Test.YtpleoapljeffiaaDoorKL13
set_option linter.unusedVariables false
set_option linter.unusedSimpArgs false
namespace Go.Proofs.YtpleoapljeffiaaDoor.E
open Go
open Classical
def Ideal.getR(s:Ideal)(r:Int):Word:=s.regs.getD r.toNat ⟨0,0,0⟩
def Ideal.setR(s:Ideal)(r:Int)(w:Word):Ideal:={s with regs:=s.regs.set r.toNat w}
def Ideal.nd(s:Ideal)(b:Int):Nd:=(ndI s b).getD Nd.none
def Ideal.upd(s:Ideal)(b:Int)(n:Nd):Ideal:={s with things:=s.things.set (b-1).toNat n}
def Ideal.push(s:Ideal)(n:Nd):Ideal:={s with things:=s.things++[n]}
theorem nd_of{s:Ideal}{b:Int}{n:Nd}(h:ndI s b=some n):s.nd b=n:=by unfold Ideal.nd;rw[h];rfl
theorem upd_nd{s:Ideal}{b d:Int}{n m:Nd}(h:ndI s b=some m):ndI (s.upd b n) d=if d=b then some n else ndI s d:=by
 have hl:=ndI_lt h
 unfold ndI Ideal.upd
 simp only[List.getElem?_set]
 by_cases e:d=b
 ·subst e
  rw[if_pos rfl,if_pos (by omega),if_pos rfl,if_pos (by omega)]
 ·rw[if_neg e]
  by_cases h1:1≤d
  ·rw[if_pos h1,if_pos h1,if_neg (by omega)]
  ·rw[if_neg h1,if_neg h1]
theorem push_nd{s:Ideal}{d:Int}{n:Nd}:ndI (s.push n) d=if d=s.things.length+1 then some n else ndI s d:=by
 unfold ndI Ideal.push
 simp only
 by_cases e:d=s.things.length+1
 ·subst e
  rw[if_pos (by omega),if_pos rfl,show((s.things.length:Int)+1-1).toNat=s.things.length by omega]
  simp
 ·rw[if_neg e]
  by_cases h1:1≤d
  ·rw[if_pos h1,if_pos h1,List.getElem?_append]
   split
   ·rfl
   ·rw[List.getElem?_eq_none (l:=s.things) (by omega),List.getElem?_eq_none (by simp;omega)]
  ·rw[if_neg h1,if_neg h1]
section
variable {H:Heap} {s:Ideal}
theorem Im.reg(h:Im H s){r:Int}(h0:0≤r)(h1:r≤15):s.getR r=H.aw (H.getR r):=by
 have:=(getR_mem h.ok.r1 h0 h1).1
 unfold Ideal.getR
 rw[←h.regs,List.getD_eq_getElem?_getD,List.getElem?_map,this];rfl
theorem Im.regn(h:Im H s){r:Int}(h0:0≤r)(h1:r≤15)(hk:(H.getR r).kind≠2):s.getR r=H.getR r:=by
 rw[h.reg h0 h1];unfold Heap.aw;rw[if_neg hk]
theorem Im.regc(h:Im H s){r:Int}(h0:0≤r)(h1:r≤15)(hk:(H.getR r).kind=2):∃i:Nat,(H.getR r).at_=i∧i<H.cells.length∧(H.getC i).state=1∧¬Doomed H i∧s.getR r=⟨2,0,(H.getC i).born⟩∧ndI s (H.getC i).born=some ⟨(H.getC i).kind,(H.getC i).weak,(H.getC i).last,(H.getC i).pairs.map H.ap⟩:=by
 obtain⟨a,b⟩:=getR_ok h.ok h0 h1
 obtain⟨b0,b1,b2,b3⟩:=b hk
 obtain⟨i,hi⟩:=Int.eq_ofNat_of_zero_le b0
 rw[hi]at b1 b2 b3
 refine⟨i,hi,by omega,b2,b3,?_,h.node _ _ (node_at (get_at (by omega)) b2 b3)⟩
 rw[h.reg h0 h1,aw_reg h.ok.r4 (getR_mem h.ok.r1 h0 h1).2,if_pos hk,hi]
theorem Im.kind(h:Im H s){r:Int}(h0:0≤r)(h1:r≤15):(s.getR r).kind=(H.getR r).kind:=by
 by_cases hk:(H.getR r).kind=2
 ·obtain⟨i,_,_,_,_,e,_⟩:=h.regc h0 h1 hk
  rw[e,hk]
 ·rw[h.regn h0 h1 hk]
theorem Im.setR(h:Im H s){r:Int}{w:Word}(hf:Formed H w)(hl:LeadsWell H w False):Im (H.setR r w) (s.setR r (H.aw w)):=
 ⟨setR_sound h.ok hf hl,by
   show(H.regs.set r.toNat w).map H.aw=s.regs.set r.toNat (H.aw w)
   rw[List.map_set,h.regs],h.node,h.root,h.room,h.born⟩
theorem put_getC{K:Heap}{i:Nat}{d:Cell}(hi:i<H.cells.length)(hc:K.cells=H.cells.set i d)(j:Int):K.getC j=if j.toNat=i then d else H.getC j:=by
 rw[getC_L,getC_L,hc];exact getL_set hi
theorem toNat_getC{H:Heap}{j:Int}{i:Nat}(e:j.toNat=i):H.getC j=H.getC i:=by
 rw[getC_L,getC_L];unfold getL;rw[e];rfl
theorem put_aw{K:Heap}{i:Nat}{d:Cell}(hi:i<H.cells.length)(hc:K.cells=H.cells.set i d)(hs:(H.getC i).state=1)(hd:d.state=1∧d.born=(H.getC i).born):K.aw=H.aw:=by
 have g:=put_getC hi hc
 have hst:∀j:Int,(K.getC j).state=(H.getC j).state:=fun j=>by
  rw[g];split
  ·rename_i e;rw[toNat_getC e,hs,hd.1]
  ·rfl
 have hle:K.lead=H.lead:=funext fun w=>by
  unfold Heap.lead
  rw[hst]
  by_cases hk:w.kind=2∧(H.getC w.at_).state=2
  ·rw[if_pos hk,if_pos hk,g,if_neg (fun e=>by rw[toNat_getC e,hs]at hk;omega)]
  ·rw[if_neg hk,if_neg hk]
 funext w
 unfold Heap.aw
 rw[hle,g]
 split
 ·split
  ·rename_i e;rw[toNat_getC e,hd.2]
  ·rfl
 ·rfl
theorem Im.put{K:Heap}{i:Nat}{d:Cell}(h:Im H s)(hi:i<H.cells.length)(hs:(H.getC i).state=1)(hnd:¬Doomed H i)(k:Sound K)(hc:K.cells=H.cells.set i d)(hd:d.state=1∧d.born=(H.getC i).born∧d.color=(H.getC i).color)
 (hr:K.regs=H.regs) (hp:K.phase=H.phase) (hh:K.hand=H.hand) (h1:K.room=H.room) (h2:K.born=H.born):Im K (s.upd (H.getC i).born ⟨d.kind,d.weak,d.last,d.pairs.map H.ap⟩):=by
 have g:=put_getC hi hc
 have ha:=put_aw hi hc hs ⟨hd.1,hd.2.1⟩
 have hap:K.ap=H.ap:=by funext p;unfold Heap.ap;rw[ha]
 have hb:=h.node _ _ (node_at (get_at hi) hs hnd)
 have hD:∀j:Int,Doomed K j↔Doomed H j:=fun j=>by
  unfold Doomed
  rw[hp,hh,g]
  split
  ·rename_i e;rw[toNat_getC (H:=H) e,hs,hd.1,hd.2.2]
  ·exact Iff.rfl
 refine⟨k,by rw[hr,ha];exact h.regs,fun b n hn=>?_,fun b n hb2 hl=>?_,h1.trans h.room,?_⟩
 ·obtain⟨j,c,c1,c2,c3,c4,rfl⟩:=hn
  rw[hc]at c1
  rw[upd_nd hb,hap]
  rcases set_gt c1 with⟨rfl,rfl,_⟩|⟨hne,c1⟩
  ·rw[if_pos (by rw[←c4,hd.2.1])]
  ·rw[if_neg (fun e=>hne (born_one h.ok.r2 c1 (get_at hi) c2 hs (by rw[c4,e])).1)]
   exact h.node _ _ ⟨j,c,c1,c2,fun x=>c3 ((hD _).2 x),c4,rfl⟩
 ·rw[upd_nd hb]at hb2
  split at hb2
  ·rename_i e
   exact⟨_,i,d,by rw[hc,List.getElem?_set,if_pos rfl,if_pos hi],hd.1,fun x=>hnd ((hD _).1 x),by rw[hd.2.1,e],rfl⟩
  ·rename_i e
   obtain⟨m,j,c,c1,c2,c3,c4,rfl⟩:=h.root b n hb2 hl
   refine⟨_,j,c,?_,c2,fun x=>c3 ((hD _).1 x),c4,rfl⟩
   rw[hc,List.getElem?_set,if_neg (fun e2=>?_)]
   ·exact c1
   ·subst e2
    rw[get_at hi]at c1
    cases c1
    exact e c4.symm
 ·show K.born=((s.things.set _ _).length:Int)
  rw[List.length_set,h2];exact h.born
theorem rep_no(K:Heap)(n:Nat):(List.replicate n Pair.no).map K.ap=List.replicate n Pair.no:=by rw[List.map_replicate,ap_no]
theorem Im.new(h:Im H s){r n:Nat}{kind:Int}(hb:H.born<1000000000)(hk:0≤kind∧kind≤255)(hn:n≤200)(hu:H.used+1+n≤H.room):
 Im (H.newH r kind n) ((s.push ⟨kind,0,0,List.replicate n Pair.no⟩).setR r ⟨2,0,s.things.length+1⟩):=by
 obtain⟨f0,f1,f2,_⟩:=frG_ok H H.cells.length
 have hS:Sound (H.newH r kind n):=new_sound h.ok hb hk hn hu
 obtain⟨a,ha⟩:=Int.eq_ofNat_of_zero_le f0
 rw[ha]at f1 f2
 generalize hKe:H.newH r kind n=K at hS
 have kc:K.cells=addC H.cells a (Cell.fresh kind (H.born+1) (newCol H a) n):=by rw[←hKe];unfold Heap.newH;rw[ha];rfl
 have kr:K.regs=H.regs.set r ⟨2,0,a⟩:=by rw[←hKe];unfold Heap.newH;rw[ha]
 have kp:K.phase=H.phase∧K.hand=H.hand∧K.room=H.room∧K.born=H.born+1:=by rw[←hKe];exact⟨rfl,rfl,rfl,rfl⟩
 have gK:∀j:Int,K.getC j=if j.toNat=a then Cell.fresh kind (H.born+1) (newCol H a) n else H.getC j:=fun j=>by
  rw[getC_L,getC_L,kc];exact addC_L (by omega) j
 --the place was free
 have free:∀(j:Nat) c,H.cells[j]?=some c→c.state≠0→j≠a:=fun j c hc hst e=>by
  have hl:=(List.getElem?_eq_some_iff.1 hc).1
  subst e
  have:=(f2 (by omega)).2
  rw[getC_nat hc]at this
  exact hst this
 have aw_old:∀{w:Word} {m:Prop},Formed H w→LeadsWell H w m→K.aw w=H.aw w:=fun{w m} hf hl=>by
  by_cases hk2:w.kind=2
  ·have hat:=hf.at hk2
   have hne:w.at_.toNat≠a:=fun e=>by
    have e2:w.at_=a:=by omega
    have:=(f2 (by omega)).2
    rw[←e2]at this
    rcases hl hk2 with x|x<;>have:=x.1<;>omega
   have hlead:K.lead w=H.lead w:=by
    unfold Heap.lead
    rw[gK,if_neg hne]
   obtain⟨lf,ll⟩:=lead_well h.ok hf hl
   have hk3:=lead_kind (H:=H).2 hk2
   have hat2:=lf.at hk3
   unfold Heap.aw
   rw[if_pos hk2,if_pos hk2,hlead,gK,if_neg (fun e=>?_)]
   have e2:(H.lead w).at_=a:=by omega
   have:=(f2 (by omega)).2
   rw[←e2]at this
   rcases ll hk3 with x|x
   ·have:=x.1;omega
   ·exact x.2
  ·unfold Heap.aw
   rw[if_neg hk2,if_neg hk2]
 have nod:∀(j:Nat) c,H.cells[j]?=some c→¬Doomed H j→c.pairs.map K.ap=c.pairs.map H.ap:=fun j c hc hd=>by
  refine List.map_congr_left fun p hp=>?_
  obtain⟨k,hk⟩:=List.getElem?_of_mem hp
  obtain⟨p1,p2,p3⟩:=h.ok.r4.pairs j c hc k p hk
  obtain⟨q1,q2⟩:=p3 hd
  unfold Heap.ap
  rw[aw_old p1 q1,aw_old p2 q2]
 have hD:∀j:Nat,j≠a→(Doomed K j↔Doomed H j):=fun j hj=>by
  unfold Doomed
  rw[kp.1,kp.2.1,gK,if_neg (by omega)]
 have lt:∀{b m},Node H b m→b≠H.born+1:=fun{b m} hm e=>by
  have:=ndI_lt (h.node _ _ hm)
  have:=h.born
  omega
 refine⟨hS,?_,fun b m hm=>?_,fun b m hm hl=>?_,kp.2.2.1.trans h.room,?_⟩
 ·show _=s.regs.set (r:Int).toNat ⟨2,0,s.things.length+1⟩
  rw[kr,←h.regs,List.map_set]
  have ga:=gK (a:Int)
  rw[if_pos (by simp)]at ga
  have e1:K.aw ⟨2,0,a⟩=⟨2,0,s.things.length+1⟩:=by
   unfold Heap.aw
   rw[if_pos rfl,lead_id (fun _=>by show(K.getC a).state=1;rw[ga];rfl)]
   show(⟨2,0,(K.getC a).born⟩:Word)=_
   rw[ga,←h.born]
   rfl
  rw[e1,Int.toNat_natCast]
  congr 1
  exact List.map_congr_left fun w hw=>aw_old (h.ok.r4.regs w hw).1 (h.ok.r4.regs w hw).2
 ·show ndI (s.push _) b=_
  rw[push_nd,←h.born]
  obtain⟨j,c,c1,c2,c3,c4,rfl⟩:=hm
  rw[kc]at c1
  rcases addC_gt (by omega) c1 with⟨e1,rfl⟩|⟨e1,c1⟩
  ·have c5:b=H.born+1:=c4.symm
   rw[if_pos c5]
   simp only[Cell.fresh,rep_no]
  ·have hdd:¬Doomed H j:=fun x=>c3 ((hD j e1).2 x)
   have hm:Node H b _:=⟨j,c,c1,c2,hdd,c4,rfl⟩
   rw[if_neg (lt hm),nod j c c1 hdd]
   exact h.node _ _ hm
 ·have hm:ndI (s.push ⟨kind,0,0,List.replicate n Pair.no⟩) b=some m:=hm
  rw[push_nd]at hm
  split at hm
  ·cases hm
   rcases hl with hl|hl<;>simp at hl
  ·obtain⟨m',j,c,c1,c2,c3,c4,rfl⟩:=h.root b m hm hl
   have hne:=free j c c1 (by omega)
   refine⟨_,j,c,?_,c2,fun x=>c3 ((hD j hne).1 x),c4,rfl⟩
   rw[kc]
   unfold addC
   have hl:=(List.getElem?_eq_some_iff.1 c1).1
   split
   ·rw[List.getElem?_append_left hl];exact c1
   ·rw[List.getElem?_set,if_neg (fun e=>hne e.symm)];exact c1
 ·rw[kp.2.2.2,h.born]
  show _=((s.things++[_]).length:Int)
  simp
end
def LostI(s:Ideal)(w:Word):Prop:=∃b,IsC w b∧¬HeldI s b
def GoneI(s:Ideal)(n:Nd)(p:Pair):Prop:=(¬KeyI n.weak∧LostI s p.key)∨(¬ValI n.weak∧LostI s p.val)
noncomputable def stI(s:Ideal)(b:Int)(n:Nd):Nd:=
 if HeldI s b then{n with pairs:=n.pairs.filter fun p=>decide (¬GoneI s n p)}else if n.last=1 then{n with last:=2}else n
noncomputable def settleI(s:Ideal):Ideal:={s with things:=s.things.mapIdx fun i n=>stI s ((i:Int)+1) n}
def WantsI(s:Ideal)(b:Int):Prop:=¬HeldI s b∧∃n,ndI s b=some n∧n.last=1
noncomputable def duesI(s:Ideal):Int:=(posI s (WantsI s)).length
theorem settle_nd{s:Ideal}{b:Int}:ndI (settleI s) b=(ndI s b).map (stI s b):=by
 unfold ndI settleI
 simp only
 split
 ·rw[List.getElem?_mapIdx]
  rw[show(((b-1).toNat:Nat):Int)+1=b by omega]
 ·rfl
section
variable {H:Heap} {s:Ideal}
theorem p2_get(H:Heap):∀i:Nat,i≤H.cells.length→∀j:Nat,j<H.cells.length→(p2 H i).getC j=if j<i∧¬Held H j∧(H.getC j).last=1 then{(p1 H H.cells.length).getC j with last:=2}else(p1 H H.cells.length).getC j
 |0,_,j,_=>by rw[if_neg (by omega)];rfl
 |i+1,hi,j,hj=>by
  have ih:=p2_get H i (by omega) j hj
  obtain⟨l,b,_⟩:=p2_ok H i (by omega)
  simp only[p2]
  by_cases c:¬Held H i∧(H.getC i).last=1
  ·rw[if_pos c]
   have:=put_getC (H:=p2 H i) (K:={p2 H i with cells:=(p2 H i).cells.set i {(p2 H i).getC i with last:=2}}) (i:=i) (by rw[l.len];omega) rfl (j:Int)
   rw[this,Int.toNat_natCast]
   by_cases e:j=i
   ·subst e
    rw[if_pos rfl,if_pos ⟨by omega,c⟩,b j (Nat.le_refl _)]
   ·rw[if_neg e,ih]
    by_cases d:j<i∧¬Held H j∧(H.getC j).last=1
    ·rw[if_pos d,if_pos ⟨by omega,d.2⟩]
    ·rw[if_neg d,if_neg (fun x=>d ⟨by omega,x.2⟩)]
  ·rw[if_neg c,ih]
   by_cases d:j<i∧¬Held H j∧(H.getC j).last=1
   ·rw[if_pos d,if_pos ⟨by omega,d.2⟩]
   ·rw[if_neg d,if_neg (fun x=>d ⟨by
     rcases Nat.lt_or_ge j i with y|y
     ·exact y
     ·have:j=i:=by omega
      subst this;exact absurd x.2 c,x.2⟩)]
theorem settle_get(H:Heap){j:Nat}(hj:j<H.cells.length):H.settleH.getC j=if Held H j then{H.getC j with pairs:=kept H (H.getC j) (H.getC j).pairs}else if(H.getC j).last=1 then{H.getC j with last:=2}else H.getC j:=by
 have h2:=p2_get H _ (Nat.le_refl _) j hj
 have h1:=p1_get H _ (Nat.le_refl _) j hj
 unfold Heap.settleH
 rw[h2,h1]
 by_cases a:Held H j
 ·rw[if_neg (fun x=>x.2.1 a),if_pos ⟨hj,a⟩,if_pos a]
 ·rw[if_neg (fun x=>a x.2:¬(j<H.cells.length∧Held H j)),if_neg a]
  by_cases b:(H.getC j).last=1
  ·rw[if_pos ⟨hj,a,b⟩,if_pos b]
  ·rw[if_neg (fun x=>b x.2.2),if_neg b]
theorem Im.lost(h:Im H s){w:Word}{m:Prop}(hf:Formed H w)(hl:LeadsWell H w m):Lost H w↔LostI s (H.aw w):=by
 unfold Lost LostI
 constructor
 ·rintro⟨j,h1,h2⟩
  obtain⟨c,c1,c2,c3⟩:=lead_ok h.ok.r2 hf hl h1
  refine⟨(H.getC j).born,(aw_tgt h.ok.r2 hf hl).2 ⟨j,h1,rfl⟩,fun hh=>h2 ?_⟩
  rw[getC_nat c1]at hh
  exact(held_iff h.ok c1 c2).2 (h.held.2 hh)
 ·rintro⟨b,h1,h2⟩
  obtain⟨j,e1,e2⟩:=(aw_tgt h.ok.r2 hf hl).1 h1
  obtain⟨c,c1,c2,c3⟩:=lead_ok h.ok.r2 hf hl e1
  refine⟨j,e1,fun hh=>h2 ?_⟩
  rw[getC_nat c1]at e2
  rw[←e2]
  exact h.held.1 ((held_iff h.ok c1 c2).1 hh)
theorem Im.settle(h:Im H s):Im H.settleH (settleI s):=by
 obtain⟨l,_⟩:=p2_ok H H.cells.length (Nat.le_refl _)
 have hS:=settle_sound h.ok
 have gK:=fun j hj=>settle_get H (j:=j) hj
 change Like H H.settleH at l
 generalize H.settleH=K at l hS gK
 have hle:K.lead=H.lead:=funext l.lead
 have haw:K.aw=H.aw:=funext fun w=>by unfold Heap.aw;rw[hle,(l.cell _).2.2.2.2.1]
 have hap:K.ap=H.ap:=by funext p;unfold Heap.ap;rw[haw]
 have hD:∀j:Int,Doomed K j↔Doomed H j:=fun j=>by unfold Doomed;rw[l.phase,l.hand,(l.cell _).1,(l.cell _).2.2.2.2.2]
 --one node
 have key:∀(j:Nat) c,H.cells[j]?=some c→c.state=1→¬Doomed H j→(⟨(K.getC j).kind,(K.getC j).weak,(K.getC j).last,(K.getC j).pairs.map K.ap⟩:Nd)=stI s c.born ⟨c.kind,c.weak,c.last,c.pairs.map H.ap⟩:=fun j c hc hs hd=>by
  have hj:=(List.getElem?_eq_some_iff.1 hc).1
  have hh:HeldI s c.born↔Held H j:=h.held.symm.trans (held_iff h.ok hc hs).symm
  rw[gK j hj,getC_nat hc,hap]
  unfold stI
  by_cases a:Held H j
  ·rw[if_pos a,if_pos (hh.2 a)]
   simp only[Nd.mk.injEq,true_and]
   unfold kept
   rw[List.filter_map]
   congr 1
   refine List.filter_congr fun p hp=>?_
   obtain⟨k,hk⟩:=List.getElem?_of_mem hp
   obtain⟨p1,p2,p3⟩:=h.ok.r4.pairs j c hc k p hk
   obtain⟨q1,q2⟩:=p3 hd
   have e:GoneP H c p↔GoneI s ⟨c.kind,c.weak,c.last,c.pairs.map H.ap⟩ (H.ap p):=by
    unfold GoneP GoneI Heap.ap
    simp only
    rw[h.lost p1 q1,h.lost p2 q2]
    exact Iff.rfl
   simp only[Function.comp_apply]
   rw[decide_eq_decide,e]
  ·rw[if_neg a,if_neg (fun x=>a (hh.1 x))]
   simp only
   by_cases b:c.last=1
   ·rw[if_pos b,if_pos b]
   ·rw[if_neg b,if_neg b]
 have cel:∀(j:Nat) c',K.cells[j]?=some c'→c'=K.getC j∧j<H.cells.length:=fun j c' hc'=>⟨(getC_nat hc').symm,by have:=(List.getElem?_eq_some_iff.1 hc').1;rw[l.len]at this;exact this⟩
 refine⟨hS,by rw[haw,l.regs];exact h.regs,fun b n hn=>?_,fun b n hn hl=>?_,l.room.trans h.room,?_⟩
 ·obtain⟨j,c',c1,c2,c3,c4,rfl⟩:=hn
  obtain⟨rfl,hj⟩:=cel j c' c1
  obtain⟨l1,_,_,_,l5,_⟩:=l.cell j
  have hs:(H.getC j).state=1:=by rw[←l1];exact c2
  have hd:¬Doomed H j:=fun x=>c3 ((hD _).2 x)
  have hb:(H.getC j).born=b:=by rw[←l5];exact c4
  rw[key j _ (get_at hj) hs hd,settle_nd,hb]
  have:=h.node _ _ (node_at (get_at hj) hs hd)
  rw[hb]at this
  rw[this];rfl
 ·rw[settle_nd]at hn
  cases hb:ndI s b with
  |none=>rw[hb]at hn;cases hn
  |some n0=>
   rw[hb]at hn
   simp only[Option.map_some,Option.some.injEq]at hn
   have hl0:n0.last=1∨n0.last=2:=by
    rw[←hn]at hl
    unfold stI at hl
    split at hl
    ·exact hl
    split at hl
    ·exact .inl ‹_›
    ·exact hl
   obtain⟨m,j,c,c1,c2,c3,c4,rfl⟩:=h.root b n0 hb hl0
   have hj:=(List.getElem?_eq_some_iff.1 c1).1
   obtain⟨l1,_,_,_,l5,_⟩:=l.cell j
   rw[getC_nat c1]at l1 l5
   refine⟨_,j,_,get_at (by rw[l.len];exact hj),by rw[l1];exact c2,fun x=>c3 ((hD _).1 x),by rw[l5];exact c4,rfl⟩
 ·show K.born=((s.things.mapIdx _).length:Int)
  rw[List.length_mapIdx,l.born];exact h.born
theorem len_same:∀{l u:List (Int×Int)},l.Nodup→u.Nodup→(∀x,x∈l↔x∈u)→l.length=u.length:=by
 have key:∀(l u:List (Int×Int)),l.Nodup→(∀x,x∈l→x∈u)→l.length≤u.length:=by
  intro l
  induction l with
  |nil=>intro u _ _;simp
  |cons a r ih=>
   intro u hn h
   have ha:=h a (by simp)
   obtain⟨h1,h2⟩:=List.nodup_cons.1 hn
   have:=ih (u.erase a) h2 (fun x hx=>(List.mem_erase_of_ne (fun e=>h1 (by rw[←e];exact hx))).2 (h x (by simp[hx])))
   rw[List.length_erase_of_mem ha]at this
   have:0<u.length:=List.length_pos_of_mem ha
   simp only[List.length_cons];omega
 intro l u h1 h2 h
 have a:=key l u h1 (fun x hx=>(h x).1 hx)
 have b:=key u l h2 (fun x hx=>(h x).2 hx)
 omega
theorem d2_len(H:Heap):∀k:Nat,d2 H k=((List.range k).filter fun i:Nat=>decide (¬Held H i∧(H.getC i).last=1)).length
 |0=>rfl
 |k+1=>by
  rw[List.range_succ,List.filter_append,List.length_append,←d2_len H k]
  simp only[d2]
  by_cases c:¬Held H k∧(H.getC k).last=1
  ·rw[if_pos c];simp[c]
  ·rw[if_neg c];simp[c]
theorem wants_used{H:Heap}(h:Sound H){i:Nat}(hi:i<H.cells.length)(hl:(H.getC i).last=1∨(H.getC i).last=2):(H.getC i).state=1∧¬Doomed H i:=by
 have hs:(H.getC i).state=1:=Classical.byContradiction fun hn=>by
  have:=(h.r2.bare (get_at hi) hn).2.2.1
  omega
 exact⟨hs,fun hd=>h.r4.roots i _ (get_at hi) hd ⟨hs,hl⟩⟩
theorem Im.dues(h:Im H s):((d2 H H.cells.length:Nat):Int)=duesI s:=by
 unfold duesI
 have out:∀i:Nat,(¬Held H i∧(H.getC i).last=1)→i<H.cells.length:=fun i hi=>by
  rcases Nat.lt_or_ge i H.cells.length with x|x
  ·exact x
  ·have:H.getC i=⟨0,0,0,0,0,0,0,[]⟩:=by
    unfold Heap.getC
    rw[List.getD_eq_getElem?_getD,Int.toNat_natCast,List.getElem?_eq_none x];rfl
   rw[this]at hi
   have:=hi.2
   simp at this
 have hP:∀i:Nat,(¬Held H i∧(H.getC i).last=1)→∃c,H.cells[i]?=some c∧c.state=1∧¬Doomed H i:=fun i hi=>by
  have hl:=out i hi
  obtain⟨a,b⟩:=wants_used h.ok hl (.inl hi.2)
  exact⟨_,get_at hl,a,b⟩
 have hQ:∀(i:Nat) c,H.cells[i]?=some c→c.state=1→¬Doomed H i→((¬Held H i∧(H.getC i).last=1)↔WantsI s c.born):=fun i c c1 c2 c3=>by
  unfold WantsI
  rw[held_iff h.ok c1 c2,h.held,getC_nat c1]
  refine and_congr_right fun _=>?_
  have:=h.node _ _ (node_at c1 c2 c3)
  exact⟨fun e=>⟨_,this,e⟩,fun⟨n,a,b⟩=>by rw[this]at a;cases a;exact b⟩
 have e:d2 H H.cells.length=(posL H fun i=>¬Held H i∧(H.getC i).last=1).length:=by
  rw[d2_len];unfold posL;rw[List.length_map]
  exact congrArg List.length (List.filter_congr fun i _=>decide_eq_decide.2 Iff.rfl)
 rw[e]
 congr 1
 refine len_same (posL_nodup h.ok hP) (posI_nodup s _) fun x=>?_
 rw[posL_mem h.ok hP hQ,posI_mem]
 constructor
 ·rintro⟨n,a,b,c⟩;exact⟨n,h.node _ _ a,b,c⟩
 ·rintro⟨n,a,b,c⟩
  obtain⟨m,m1,m2⟩:=b.2
  rw[a]at m1
  cases m1
  obtain⟨k,hk⟩:=h.root _ _ a (.inl m2)
  have:=h.node _ _ hk
  rw[a]at this
  cases this
  exact⟨_,hk,b,c⟩
theorem ndG_least(H:Heap):∀(k i:Nat),i<k→(H.getC i).last=2→0≤ndG H k∧(H.getC (ndG H k)).born≤(H.getC i).born
 |k+1,i,hi,hl=>by
  simp only[ndG]
  by_cases e:i=k
  ·subst e
   split
   ·exact⟨by omega,Int.le_refl _⟩
   ·rename_i c
    have h1:¬(ndG H i<0∨(H.getC i).born<(H.getC (ndG H i)).born):=fun x=>c ⟨hl,x⟩
    omega
  ·obtain⟨a,b⟩:=ndG_least H k i (by omega) hl
   split
   ·rename_i c
    refine⟨by omega,?_⟩
    rcases c.2 with x|x<;>omega
   ·exact⟨a,b⟩
noncomputable def dueI(s:Ideal):Option Nat:=s.things.findIdx? fun n=>decide (n.last=2)
theorem Im.due_none(h:Im H s)(hd:dueI s=none):ndG H H.cells.length<0:=by
 rcases Int.lt_or_le (ndG H H.cells.length) 0 with x|x
 ·exact x
 ·obtain⟨i,hi⟩:=Int.eq_ofNat_of_zero_le x
  have hlt:=(ndG_lt H H.cells.length).2
  have hl:=ndG_last H _ x
  rw[hi]at hl hlt
  obtain⟨a,b⟩:=wants_used h.ok (by omega) (.inr hl)
  have:=h.node _ _ (node_at (get_at (by omega)) a b)
  have hb:=ndI_lt this
  unfold ndI at this
  rw[if_pos (by omega)]at this
  unfold dueI at hd
  have:=List.findIdx?_eq_none_iff.1 hd _ (List.mem_of_getElem? this)
  simp[hl]at this
theorem Im.due_some(h:Im H s){k:Nat}(hd:dueI s=some k):∃i:Nat,ndG H H.cells.length=i∧i<H.cells.length∧(H.getC i).state=1∧¬Doomed H i∧(H.getC i).born=(k:Int)+1:=by
 unfold dueI at hd
 obtain⟨hk,hk2,hk3⟩:=List.findIdx?_eq_some_iff_getElem.1 hd
 have nk:ndI s ((k:Int)+1)=some s.things[k]:=by
  unfold ndI
  rw[if_pos (by omega),show((k:Int)+1-1).toNat=k by omega,List.getElem?_eq_getElem hk]
 obtain⟨m,j,c,c1,c2,c3,c4,rfl⟩:=h.root _ _ nk (.inr (by simpa using hk2))
 have:=h.node _ _ ⟨j,c,c1,c2,c3,c4,rfl⟩
 rw[nk]at this
 have hjl:c.last=2:=by
  have e:=Option.some.inj this
  have:s.things[k].last=2:=by simpa using hk2
  rw[e]at this;exact this
 have hj:=(List.getElem?_eq_some_iff.1 c1).1
 obtain⟨x,y⟩:=ndG_least H _ j hj (by rw[getC_nat c1];exact hjl)
 obtain⟨i,hi⟩:=Int.eq_ofNat_of_zero_le x
 have hlt:=(ndG_lt H H.cells.length).2
 have hl:=ndG_last H _ x
 rw[hi]at hl hlt y
 obtain⟨a,b⟩:=wants_used h.ok (by omega) (.inr hl)
 refine⟨i,hi,by omega,a,b,?_⟩
 rw[getC_nat c1,c4]at y
 have ni:=h.node _ _ (node_at (get_at (by omega)) a b)
 have hb:=ndI_lt ni
 rcases Int.lt_or_le (H.getC i).born ((k:Int)+1)with z|z
 ·exfalso
  unfold ndI at ni
  rw[if_pos (by omega)]at ni
  obtain⟨g1,g2⟩:=List.getElem?_eq_some_iff.1 ni
  have:=hk3 ((H.getC i).born-1).toNat (by omega)
  rw[g2]at this
  simp[hl]at this
 ·omega
end
structure OutI where
 s:Ideal
 code:Int
 num:Int
noncomputable def newI(s:Ideal)(a:Act):OutI:=
 if liveI s+(1+a.c)≤s.room then⟨(s.push ⟨a.b,0,0,List.replicate a.c.toNat Pair.no⟩).setR a.a ⟨2,0,s.things.length+1⟩,0,0⟩else⟨s,4,0⟩
noncomputable def pairI(s:Ideal)(a:Act):OutI:=
 let w:=s.getR (if a.op=5∨a.op=6 then a.b else a.a)
 if w.kind≠2 then⟨s,2,0⟩
 else match(s.nd w.at_).pairs[a.c.toNat]? with
  |none=>⟨s,3,0⟩
  |some p=>
   if a.op=5 then⟨s.setR a.a p.key,0,0⟩
   else if a.op=6 then⟨s.setR a.a p.val,0,0⟩
   else if a.op=7 then⟨s.upd w.at_ {s.nd w.at_ with pairs:=(s.nd w.at_).pairs.set a.c.toNat ⟨s.getR a.b,p.val⟩},0,0⟩
   else⟨s.upd w.at_ {s.nd w.at_ with pairs:=(s.nd w.at_).pairs.set a.c.toNat ⟨p.key,s.getR a.b⟩},0,0⟩
noncomputable def cellI(s:Ideal)(a:Act):OutI:=
 let w:=s.getR a.a
 if w.kind≠2 then⟨s,2,0⟩
 else if a.op=9 then
  (if(s.nd w.at_).pairs.length+a.c>200 then⟨s,5,0⟩
  else if liveI s+a.c≤s.room then⟨s.upd w.at_ {s.nd w.at_ with pairs:=(s.nd w.at_).pairs++List.replicate a.c.toNat Pair.no},0,0⟩
  else⟨s,4,0⟩)
 else if a.op=10 then⟨s.upd w.at_ {s.nd w.at_ with pairs:=(s.nd w.at_).pairs.take a.c.toNat},0,0⟩
 else if a.op=11 then⟨s.upd w.at_ {s.nd w.at_ with weak:=a.c},0,0⟩
 else if a.op=12 then⟨s.upd w.at_ {s.nd w.at_ with last:=a.c},0,0⟩
 else if a.op=16 then⟨s,0,(s.nd w.at_).kind⟩
 else⟨s,0,(s.nd w.at_).pairs.length⟩
noncomputable def dueA(s:Ideal)(a:Act):OutI:=
 match dueI s with
 |none=>⟨s.setR a.a ⟨0,0,0⟩,0,0⟩
 |some k=>⟨(s.upd ((k:Int)+1) {s.nd ((k:Int)+1)with last:=3}).setR a.a ⟨2,0,(k:Int)+1⟩,0,1⟩
noncomputable def doI(s:Ideal)(a:Act):OutI:=
 if a.op=1 then newI s a
 else if a.op=2 then⟨s.setR a.a ⟨1,a.n,0⟩,0,0⟩
 else if a.op=3 then⟨s.setR a.a ⟨0,0,0⟩,0,0⟩
 else if a.op=4 then⟨s.setR a.a (s.getR a.b),0,0⟩
 else if a.op≤8 then pairI s a
 else if a.op≤12 then cellI s a
 else if a.op=13 then⟨s,0,if s.getR a.a=s.getR a.b then 1 else 0⟩
 else if a.op=14 then⟨s,0,(s.getR a.a).kind⟩
 else if a.op=15 then(if(s.getR a.a).kind=1 then⟨s,0,(s.getR a.a).num⟩else⟨s,2,0⟩)
 else if a.op≤17 then cellI s a
 else if a.op=18 then⟨settleI s,0,duesI s⟩
 else if a.op=19 then dueA s a
 else if a.op=20 then⟨s,0,countI s⟩
 else if a.op=21 then⟨s,0,liveI s⟩
 else⟨s,0,0⟩
noncomputable def actI(s:Ideal)(a:Act):OutI:=if ActP a then doI s a else⟨s,1,0⟩
structure Sim (o:Out) (t:OutI):Prop where
 im:Im o.heap t.s
 code:o.code=t.code
 num:o.num=t.num
section
variable {H:Heap} {s:Ideal} {a:Act}
theorem sim_if{p q:Prop}[Decidable p][Decidable q]{A B:Out}{C D:OutI}(hpq:p↔q)(h1:p→Sim A C)(h2:¬p→Sim B D):Sim (if p then A else B) (if q then C else D):=by
 by_cases h:p
 ·rw[if_pos h,if_pos (hpq.1 h)];exact h1 h
 ·rw[if_neg h,if_neg (fun x=>h (hpq.2 x))];exact h2 h
theorem actP_r(hP:ActP a):0≤a.a∧a.a≤15:=⟨hP.2.2.1.1,by have:=hP.2.2.1.2;have:=aMost_le a.op;omega⟩
theorem Im.doNew(h:Im H s)(hP:ActP a)(ho:a.op=1)(hb:H.born<1000000000):Sim (doNew H a) (newI s a):=by
 obtain⟨_,_,_,a2,a3⟩:=hP
 rw[ho]at a2 a3
 simp[bMost,cMost]at a2 a3
 have hF:=h.fits (1+a.c)
 have hL:=h.fits_live (1+a.c)
 unfold E.doNew newI
 rw[if_neg (by omega)]
 refine sim_if hL (fun c=>⟨?_,rfl,rfl⟩) (fun c=>⟨hF,rfl,rfl⟩)
 have fb:=hF.born
 have hb2:=h.born
 have:=hF.new (r:=a.a.toNat) (n:=a.c.toNat) (kind:=a.b) (by omega) a2 (by omega) (by omega)
 refine Im.pace (H:=(H.fitsH (1+a.c)).newH a.a.toNat a.b a.c.toNat) ?_ _
 have e:∀x:Ideal,∀w,x.setR ((a.a.toNat:Nat):Int) w=x.setR a.a w:=fun x w=>by unfold Ideal.setR;rw[Int.toNat_natCast]
 rw[e]at this
 exact this
theorem Im.ndc(h:Im H s){i:Nat}(hn:ndI s (H.getC i).born=some ⟨(H.getC i).kind,(H.getC i).weak,(H.getC i).last,(H.getC i).pairs.map H.ap⟩):s.nd (H.getC i).born=⟨(H.getC i).kind,(H.getC i).weak,(H.getC i).last,(H.getC i).pairs.map H.ap⟩:=nd_of hn
theorem Im.doPair(h:Im H s)(ha:0≤a.a∧a.a≤15)(hb:0≤a.b∧a.b≤15):Sim (doPair H a) (pairI s a):=by
 have hS:=doPair_sound h.ok ha hb
 unfold E.doPair at hS⊢
 unfold pairI
 have hx:0≤(if a.op=5∨a.op=6 then a.b else a.a)∧(if a.op=5∨a.op=6 then a.b else a.a)≤15:=by split<;>assumption
 have hkk:=h.kind hx.1 hx.2
 have hrc:=h.regc hx.1 hx.2
 generalize H.getR (if a.op=5∨a.op=6 then a.b else a.a)=w at*
 generalize s.getR (if a.op=5∨a.op=6 then a.b else a.a)=v at*
 simp only at hS⊢
 by_cases hk:w.kind=2
 ·rw[if_neg (fun e=>e hk)]at hS⊢
  rw[if_neg (fun e=>e (by rw[hkk];exact hk))]
  obtain⟨i,hi,hlt,hs,hd,rfl,hnd⟩:=hrc hk
  rw[hi]at hS⊢
  simp only
  rw[h.ndc hnd]
  simp only
  rw[List.getElem?_map]
  cases hp:(H.getC i).pairs[a.c.toNat]? with
  |none=>exact⟨h,rfl,rfl⟩
  |some p=>
   rw[hp]at hS
   simp only[Option.map_some]at hS⊢
   obtain⟨p1,p2,g⟩:=h.ok.r4.pairs i _ (get_at hlt) _ p hp
   obtain⟨g1,g2⟩:=g hd
   obtain⟨s1,s2⟩:=getR_ok h.ok hb.1 hb.2
   obtain⟨q1,q2⟩:=shadeW_ok s1 (fun hk=>(s2 hk).2.2.1)
   have hsh:=h.shade s1 (q1.sound h.ok)
   have hc:=q1.cell i
   have hue:=hue_shadeW (H:=H) s1
   have hap:(H.shadeW (H.getR a.b)).ap=H.ap:=by funext p;unfold Heap.ap;rw[hue.aw]
   have hdS:¬Doomed (H.shadeW (H.getR a.b)) i:=fun hx=>by
    by_cases hm:Marking H
    ·have:Marking (H.shadeW (H.getR a.b)):=shade_marks.2 hm
     have:=hx.1;unfold Marking at*;omega
    ·have:H.shadeW (H.getR a.b)=H:=by
      unfold Heap.shadeW Heap.shadeH
      split
      ·rw[if_neg (fun x=>hm x.1)]
      ·rfl
     rw[this]at hx;exact hd hx
   have hpr:((H.shadeW (H.getR a.b)).getC i).pairs=(H.getC i).pairs:=hc.2.1
   --what is written
   have put:∀q:Pair,Sound ((H.shadeW (H.getR a.b)).putP i a.c.toNat q)→Im ((H.shadeW (H.getR a.b)).putP i a.c.toNat q) (s.upd (H.getC i).born ⟨(H.getC i).kind,(H.getC i).weak,(H.getC i).last,((H.getC i).pairs.map H.ap).set a.c.toNat (H.ap q)⟩):=fun q hq=>by
    have:=hsh.put (i:=i) (d:={(H.shadeW (H.getR a.b)).getC i with pairs:=((H.shadeW (H.getR a.b)).getC i).pairs.set a.c.toNat q}) (by rw[q1.len];exact hlt) (by rw[hc.1];exact hs) hdS hq rfl ⟨by show((H.shadeW (H.getR a.b)).getC i).state=1;rw[hc.1];exact hs,rfl,rfl⟩ rfl rfl rfl rfl rfl
    rw[hap]at this
    have he:=hue.cell i
    rw[he]at this
    simp only[Cell.col,List.map_set]at this
    exact this
   refine sim_if Iff.rfl (fun ho=>?_) (fun h5=>?_)
   ·rw[if_pos ho]at hS
    obtain⟨x,y⟩:=lead_well h.ok p1 g1
    have hi:=h.setR (r:=a.a) x y
    rw[lead_lead (fun hk=>(y (lead_kind.2 hk)).elim (fun z=>z.1) (fun z=>z.2.elim))]at hi
    exact⟨hi,rfl,rfl⟩
   rw[if_neg h5]at hS
   refine sim_if Iff.rfl (fun ho=>?_) (fun h6=>?_)
   ·obtain⟨x,y⟩:=lead_well h.ok p2 g2
    have hi:=h.setR (r:=a.a) x y
    rw[lead_lead (fun hk=>(y (lead_kind.2 hk)).elim (fun z=>z.1) (fun z=>z.2.elim))]at hi
    exact⟨hi,rfl,rfl⟩
   rw[if_neg h6]at hS
   have er:=h.reg hb.1 hb.2
   refine sim_if Iff.rfl (fun ho=>?_) (fun h7=>?_)
   ·rw[if_pos ho]at hS
    refine⟨?_,rfl,rfl⟩
    have:=put _ hS
    rw[er]
    exact this
   ·rw[if_neg h7]at hS
    refine⟨?_,rfl,rfl⟩
    have:=put _ hS
    rw[er]
    exact this
 ·rw[if_pos hk,if_pos (by rw[hkk];exact hk)]
  exact⟨h,rfl,rfl⟩
theorem cutH_as{i n:Nat}(hi:i<H.cells.length)(h:¬n<(H.getC i).pairs.length):H.cells=H.cells.set i {H.getC i with pairs:=(H.getC i).pairs.take n}:=by
 rw[List.take_of_length_le (by omega)]
 refine List.ext_getElem? fun j=>?_
 rw[List.getElem?_set]
 split
 ·rename_i e;subst e;exact get_at hi
 ·rfl
theorem Im.doCell(h:Im H s)(hP:ActP a)(hr:0≤a.a∧a.a≤15):Sim (doCell H a) (cellI s a):=by
 have hS:=doCell_sound h.ok hP hr
 obtain⟨_,_,_,_,a3⟩:=hP
 unfold E.doCell at hS⊢
 unfold cellI
 have hkk:=h.kind hr.1 hr.2
 have hrc:=h.regc hr.1 hr.2
 simp only at hS⊢
 by_cases hk:(H.getR a.a).kind=2
 ·rw[if_neg (fun e=>e hk)]at hS⊢
  rw[if_neg (show ¬((s.getR a.a).kind≠2)from fun e=>e (by rw[hkk];exact hk))]
  obtain⟨i,hi,hlt,hs,hd,hv,hnd⟩:=hrc hk
  rw[hi]at hS⊢
  rw[hv]
  simp only[Int.toNat_natCast]at hS⊢
  rw[h.ndc hnd]
  have put:∀(K:Heap) (d:Cell),Sound K→K.cells=H.cells.set i d→d.state=1→d.born=(H.getC i).born→d.color=(H.getC i).color→K.regs=H.regs→K.phase=H.phase→K.hand=H.hand→K.room=H.room→K.born=H.born→Im K (s.upd (H.getC i).born ⟨d.kind,d.weak,d.last,d.pairs.map H.ap⟩):=
   fun K d k1 k2 k3 k4 k5 k6 k7 k8 k9 k10=>h.put hlt hs hd k1 k2 ⟨k3,k4,k5⟩ k6 k7 k8 k9 k10
  refine sim_if Iff.rfl (fun ho=>?_) (fun h9=>?_)
  ·rw[if_pos ho]at hS
   unfold E.doGrow at hS⊢
   rw[hi]at hS⊢
   refine sim_if (by rw[List.length_map]) (fun c=>⟨h,rfl,rfl⟩) (fun c1=>?_)
   rw[if_neg c1]at hS
   have hF:=h.fits a.c
   have hL:=h.fits_live a.c
   obtain⟨f1,f2,f3,f4,f5,f6,f7⟩:=fits_ok h.ok a.c
   refine sim_if hL (fun c=>⟨?_,rfl,rfl⟩) (fun c=>⟨hF,rfl,rfl⟩)
   obtain⟨g1,g2⟩:=reg_len h.ok f1 f2 f3 hr.1 hr.2 hk
   rw[hi]at g2
   generalize H.fitsH a.c=F at*
   obtain⟨j,hj,jlt,js,jd,jv,jnd⟩:=hF.regc hr.1 hr.2 g1
   rw[hv]at jv
   have hbb:(F.getC j).born=(H.getC i).born:=by simpa using jv.symm
   rw[hbb,hnd]at jnd
   rw[hj]at g2⊢
   rw[Int.toNat_natCast]
   refine Im.pace ?_ _
   have c3:cMost 9=200:=by simp[cMost]
   rw[ho,c3]at a3
   have:=hF.put (K:=F.growC j a.c.toNat) (i:=j) (d:={F.getC j with pairs:=(F.getC j).pairs++List.replicate a.c.toNat Pair.no}) jlt js jd (grow_sound f1 jlt js (by omega) (by omega)) rfl ⟨js,rfl,rfl⟩ rfl rfl rfl rfl rfl
   rw[hbb]at this
   simp only[List.map_append,rep_no]at this
   have e:=Option.some.inj jnd
   simp only[Nd.mk.injEq]at e
   rw[e.1,e.2.1,e.2.2.1,e.2.2.2]
   exact this
  rw[if_neg h9]at hS
  refine sim_if Iff.rfl (fun ho=>?_) (fun h10=>?_)
  ·rw[if_pos ho]at hS
   refine⟨?_,rfl,rfl⟩
   simp only at hS⊢
   have key:∀K:Heap,Sound K→K=H.cutH i a.c.toNat→Im K (s.upd (H.getC i).born ⟨(H.getC i).kind,(H.getC i).weak,(H.getC i).last,((H.getC i).pairs.map H.ap).take a.c.toNat⟩):=by
    intro K hK e
    rw[←List.map_take]
    unfold Heap.cutH at e
    split at e
    ·subst e
     exact put _ {H.getC i with pairs:=(H.getC i).pairs.take a.c.toNat} hK rfl hs rfl rfl rfl rfl rfl rfl rfl
    ·rename_i hn
     subst e
     exact put _ {K.getC i with pairs:=(K.getC i).pairs.take a.c.toNat} hK (cutH_as hlt hn) hs rfl rfl rfl rfl rfl rfl rfl
   exact key _ hS rfl
  rw[if_neg h10]at hS
  refine sim_if Iff.rfl (fun ho=>?_) (fun h11=>?_)
  ·rw[if_pos ho]at hS
   exact⟨put _ {H.getC i with weak:=a.c} hS rfl hs rfl rfl rfl rfl rfl rfl rfl,rfl,rfl⟩
  rw[if_neg h11]at hS
  refine sim_if Iff.rfl (fun ho=>?_) (fun h12=>?_)
  ·rw[if_pos ho]at hS
   refine⟨?_,rfl,rfl⟩
   by_cases hc:a.c=1
   ·rw[if_pos hc]at hS⊢
    obtain⟨r1,r2⟩:=getR_ok h.ok hr.1 hr.2
    obtain⟨q1,q2⟩:=shadeW_ok r1 (fun hk=>(r2 hk).2.2.1)
    have hsh:=h.shade r1 (q1.sound h.ok)
    have hue:=hue_shadeW (H:=H) r1
    have hap:(H.shadeW (H.getR a.a)).ap=H.ap:=by funext p;unfold Heap.ap;rw[hue.aw]
    have hx:=(q1.sound h.ok).r4.regs (H.getR a.a) (by rw[q1.regs];exact(getR_mem h.ok.r1 hr.1 hr.2).2)
    have hdS:¬Doomed (H.shadeW (H.getR a.a)) i:=fun hdd=>by
     rcases hx.2 hk with x|x
     ·rw[hi]at x;exact x.2 hdd
     ·exact x.2.elim
    have:=hsh.put (i:=i) (d:={(H.shadeW (H.getR a.a)).getC i with last:=a.c}) (by rw[q1.len];exact hlt) (by rw[(q1.cell i).1];exact hs) hdS hS rfl ⟨by show((H.shadeW (H.getR a.a)).getC i).state=1;rw[(q1.cell i).1];exact hs,rfl,rfl⟩ rfl rfl rfl rfl rfl
    rw[hap]at this
    have he:=hue.cell i
    rw[he]at this
    exact this
   ·rw[if_neg hc]at hS⊢
    exact put _ {H.getC i with last:=a.c} hS rfl hs rfl rfl rfl rfl rfl rfl rfl
  refine sim_if Iff.rfl (fun ho=>⟨h,rfl,rfl⟩) (fun h16=>⟨h,rfl,?_⟩)
  simp only[List.length_map]
 ·rw[if_pos hk,if_pos (by rw[hkk];exact hk)]
  exact⟨h,rfl,rfl⟩
theorem Im.doDue(h:Im H s)(hr:0≤a.a∧a.a≤15):Sim (doDue H a) (dueA s a):=by
 have hS:=doDue_sound h.ok hr
 unfold E.doDue at hS⊢
 unfold dueA
 cases hd:dueI s with
 |none=>
  have:=h.due_none hd
  rw[if_pos this]
  have hi:=h.setR (r:=a.a) (no_formed H).1 (no_formed H).2
  have e:H.aw ⟨0,0,0⟩=⟨0,0,0⟩:=by unfold Heap.aw;rw[if_neg (by show ¬(0:Int)=2;omega)]
  rw[e]at hi
  exact⟨hi,rfl,rfl⟩
 |some k=>
  obtain⟨i,e1,e2,e3,e4,e5⟩:=h.due_some hd
  rw[e1,Int.toNat_natCast,if_neg (by omega)]at hS⊢
  refine⟨?_,rfl,rfl⟩
  simp only at hS⊢
  have nb:=h.node _ _ (node_at (get_at e2) e3 e4)
  have hp:Sound (H.putL i 3):=putL_sound h.ok e2 e3 (by omega) (fun hx=>by omega)
  have hput:=h.put (K:=H.putL i 3) (d:={H.getC i with last:=3}) e2 e3 e4 hp rfl ⟨e3,rfl,rfl⟩ rfl rfl rfl rfl rfl
  rw[e5]at hput nb
  rw[nd_of nb]
  have g:=put_getC (K:=H.putL i 3) e2 (d:={H.getC i with last:=3}) rfl (i:Int)
  rw[if_pos (by simp)]at g
  have hw:Formed (H.putL i 3) ⟨2,0,i⟩:=.inr (.inr ⟨rfl,rfl,by show(0:Int)≤i;omega,by show(i:Int)<((H.cells.set i _).length:Int);rw[List.length_set];omega⟩)
  have hl:LeadsWell (H.putL i 3) ⟨2,0,i⟩ False:=fun _=>.inl ⟨by show((H.putL i 3).getC i).state=1;rw[g];exact e3,fun hx=>by
   have hx:Doomed (H.putL i 3) i:=hx
   refine e4 ⟨hx.1,e3,?_,hx.2.2.2⟩
   have:=hx.2.2.1
   rw[g]at this
   exact this⟩
  have hi:=hput.setR (r:=a.a) hw hl
  have e:(H.putL i 3).aw ⟨2,0,i⟩=⟨2,0,(k:Int)+1⟩:=by
   unfold Heap.aw
   rw[if_pos rfl,lead_id (fun _=>by show((H.putL i 3).getC i).state=1;rw[g];exact e3)]
   show(⟨2,0,((H.putL i 3).getC i).born⟩:Word)=_
   rw[g,←e5]
  rw[e]at hi
  exact hi
theorem Im.same_reg(h:Im H s){r q:Int}(h0:0≤r)(h1:r≤15)(k0:0≤q)(k1:q≤15):H.getR r=H.getR q↔s.getR r=s.getR q:=by
 constructor
 ·intro e;rw[h.reg h0 h1,h.reg k0 k1,e]
 ·intro e
  have kr:=h.kind h0 h1
  have kq:=h.kind k0 k1
  by_cases hk:(H.getR r).kind=2
  ·have hk2:(H.getR q).kind=2:=by rw[←kq,←e,kr];exact hk
   obtain⟨i,i1,i2,i3,i4,i5,i6⟩:=h.regc h0 h1 hk
   obtain⟨j,j1,j2,j3,j4,j5,j6⟩:=h.regc k0 k1 hk2
   rw[i5,j5]at e
   simp only[Word.mk.injEq,true_and]at e
   obtain⟨rfl,_⟩:=born_one h.ok.r2 (get_at i2) (get_at j2) i3 j3 e
   have f1:=(getR_ok h.ok h0 h1).1
   have f2:=(getR_ok h.ok k0 k1).1
   have n1:(H.getR r).num=0:=by rcases f1 with x|x|x<;>omega
   have n2:(H.getR q).num=0:=by rcases f2 with x|x|x<;>omega
   generalize H.getR r=u at*
   generalize H.getR q=v at*
   obtain⟨u1,u2,u3⟩:=u
   obtain⟨v1,v2,v3⟩:=v
   simp only at hk hk2 i1 j1 n1 n2
   subst hk hk2 i1 j1 n1 n2
   rfl
  ·have hk2:(H.getR q).kind≠2:=by rw[←kq,←e,kr];exact hk
   rw[h.regn h0 h1 hk,h.regn k0 k1 hk2]at e
   exact e
theorem Im.act(h:Im H s)(hb:H.born<1000000000):Sim (actA H a) (actI s a):=by
 unfold actA actI
 refine sim_if Iff.rfl (fun hP=>?_) (fun _=>⟨h,rfl,rfl⟩)
 have hr:=actP_r hP
 have hP':=hP
 obtain⟨a0,_,a1,a2,a3⟩:=hP'
 have aw0:H.aw ⟨0,0,0⟩=⟨0,0,0⟩:=by unfold Heap.aw;rw[if_neg (by show ¬(0:Int)=2;omega)]
 have hbm:(4≤a.op∧a.op≤8∨a.op=13)→0≤a.b∧a.b≤15:=fun ho=>by
  unfold bMost at a2
  rw[if_neg (by omega),if_pos (by omega)]at a2
  exact a2
 unfold doA doI
 refine sim_if Iff.rfl (fun ho=>h.doNew hP ho hb) (fun h1=>?_)
 refine sim_if Iff.rfl (fun ho=>?_) (fun h2=>?_)
 ·have:=h.setR (r:=a.a) (num_formed H a.n).1 (num_formed H a.n).2
  have e:H.aw ⟨1,a.n,0⟩=⟨1,a.n,0⟩:=by unfold Heap.aw;rw[if_neg (by show ¬(1:Int)=2;omega)]
  rw[e]at this
  exact⟨this,rfl,rfl⟩
 refine sim_if Iff.rfl (fun ho=>?_) (fun h3=>?_)
 ·have:=h.setR (r:=a.a) (no_formed H).1 (no_formed H).2
  rw[aw0]at this
  exact⟨this,rfl,rfl⟩
 refine sim_if Iff.rfl (fun ho=>?_) (fun h4=>?_)
 ·have hb2:=hbm (by omega)
  have:=h.setR (r:=a.a) (getR_ok h.ok hb2.1 hb2.2).1 (reg_leads h.ok hb2.1 hb2.2)
  rw[←h.reg hb2.1 hb2.2]at this
  exact⟨this,rfl,rfl⟩
 refine sim_if Iff.rfl (fun ho=>h.doPair hr (hbm (by omega))) (fun h5=>?_)
 refine sim_if Iff.rfl (fun ho=>h.doCell hP hr) (fun h6=>?_)
 refine sim_if Iff.rfl (fun ho=>⟨h,rfl,?_⟩) (fun h7=>?_)
 ·have hb2:=hbm (by omega)
  have e:=h.same_reg hr.1 hr.2 hb2.1 hb2.2
  by_cases c:H.getR a.a=H.getR a.b
  ·rw[if_pos c,if_pos (e.1 c)]
  ·rw[if_neg c,if_neg (fun x=>c (e.2 x))]
 refine sim_if Iff.rfl (fun ho=>⟨h,rfl,(h.kind hr.1 hr.2).symm⟩) (fun h8=>?_)
 refine sim_if Iff.rfl (fun ho=>?_) (fun h9=>?_)
 ·refine sim_if (by rw[h.kind hr.1 hr.2]) (fun c=>⟨h,rfl,?_⟩) (fun c=>⟨h,rfl,rfl⟩)
  rw[h.regn hr.1 hr.2 (by omega)]
 refine sim_if Iff.rfl (fun ho=>h.doCell hP hr) (fun h10=>?_)
 refine sim_if Iff.rfl (fun ho=>⟨h.settle,rfl,h.dues⟩) (fun h11=>?_)
 refine sim_if Iff.rfl (fun ho=>h.doDue hr) (fun h12=>?_)
 refine sim_if Iff.rfl (fun ho=>⟨h,rfl,h.counted⟩) (fun h13=>?_)
 refine sim_if Iff.rfl (fun ho=>⟨h,rfl,h.live⟩) (fun h14=>?_)
 by_cases o22:a.op=22
 ·rw[if_pos o22];exact⟨h.step _,rfl,rfl⟩
 rw[if_neg o22]
 by_cases o23:a.op=23
 ·rw[if_pos o23]
  rw[o23]at a2 a3
  simp[bMost,cMost]at a2 a3
  exact⟨h.same (pace_sound h.ok a2 a3) rfl (fun b n=>Iff.rfl) rfl rfl,rfl,rfl⟩
 rw[if_neg o23]
 exact⟨h.round,rfl,rfl⟩
end
noncomputable def runI:Ideal→List Act→Ideal
 |s,[]=>s
 |s,b::r=>runI (actI s b).s r
noncomputable def ansI:Ideal→List Act→List (Int×Int)
 |_,[]=>[]
 |s,b::r=>((actI s b).code,(actI s b).num)::ansI (actI s b).s r
theorem runI_app:∀(l:List Act) (s:Ideal) (r:List Act),runI s (l++r)=runI (runI s l) r
 |[],_,_=>rfl
 |_::l,s,r=>runI_app l _ r
theorem ansI_app:∀(l:List Act) (s:Ideal) (r:List Act),ansI s (l++r)=ansI s l++ansI (runI s l) r
 |[],_,_=>rfl
 |b::l,s,r=>by
  show _::ansI _ (l++r)=_
  rw[ansI_app l];rfl
theorem ansI_len:∀(l:List Act) (s:Ideal),(ansI s l).length=l.length
 |[],_=>rfl
 |b::r,s=>by simp[ansI,ansI_len r]
theorem out_s{p:Prop}[Decidable p]{A B:OutI}{n:Nat}(h1:A.s.things.length≤n)(h2:B.s.things.length≤n):(if p then A else B).s.things.length≤n:=by split<;>assumption
theorem actI_len(s:Ideal)(a:Act):(actI s a).s.things.length≤s.things.length+1:=by
 have up:∀b n,(s.upd b n).things.length≤s.things.length+1:=fun b n=>by
  show(s.things.set _ _).length≤_
  rw[List.length_set];omega
 have hs:s.things.length≤s.things.length+1:=Nat.le_succ _
 have hp:(pairI s a).s.things.length≤s.things.length+1:=by
  unfold pairI
  refine out_s hs ?_
  split
  ·exact hs
  ·exact out_s hs (out_s hs (out_s (up _ _) (up _ _)))
 have hc:(cellI s a).s.things.length≤s.things.length+1:=by
  unfold cellI
  exact out_s hs (out_s (out_s hs (out_s (up _ _) hs)) (out_s (up _ _) (out_s (up _ _) (out_s (up _ _) (out_s hs hs)))))
 have hd:(dueA s a).s.things.length≤s.things.length+1:=by
  unfold dueA
  split
  ·exact hs
  ·exact up _ _
 unfold actI
 refine out_s ?_ hs
 unfold doI
 refine out_s ?_ (out_s hs (out_s hs (out_s hs (out_s hp (out_s hc (out_s hs (out_s hs (out_s (out_s hs hs) (out_s hc (out_s ?_ (out_s hd (out_s hs (out_s hs hs)))))))))))))
 ·unfold newI
  refine out_s ?_ hs
  show(s.things++[_]).length≤_
  simp
 ·show(s.things.mapIdx _).length≤_
  rw[List.length_mapIdx];exact hs
theorem Im.run:∀(l:List Act) {H:Heap} {s:Ideal},Im H s→s.things.length+l.length<1000000000→ansL H l=ansI s l∧Im (runH H l) (runI s l)
 |[],_,_,h,_=>⟨rfl,h⟩
 |b::r,H,s,h,hn=>by
  simp only[List.length_cons]at hn
  obtain⟨a1,a2,a3⟩:=h.act (a:=b) (by rw[h.born];omega)
  have:=actI_len s b
  obtain⟨b1,b2⟩:=Im.run r a1 (by omega)
  refine⟨?_,b2⟩
  show _::ansL _ r=_::ansI _ r
  rw[a2,a3,b1]
theorem nw_im{H:Heap}(h:Sound H)(h0:H.cells=[])(hb:H.born=0)(hr:H.regs=List.replicate 16 ⟨0,0,0⟩):Im H ⟨H.room,List.replicate 16 ⟨0,0,0⟩,[]⟩:=
 ⟨h,by
   have e:H.aw ⟨0,0,0⟩=⟨0,0,0⟩:=by unfold Heap.aw;rw[if_neg (by show ¬(0:Int)=2;omega)]
   rw[hr,List.map_replicate,e],fun b n ⟨i,c,hc,_⟩=>(by rw[h0]at hc;simp at hc),fun b n hb=>(by unfold ndI at hb;split at hb<;>simp at hb),rfl,by simpa using hb⟩
def nums(op:Int):List Act→List (Int×Int)→List Int
 |a::r,x::t=>if a.op=op then x.2::nums op r t else nums op r t
 |_,_=>[]
theorem nums_app(op:Int):∀(a:List Act) (x:List (Int×Int)) {b:List Act} {y:List (Int×Int)},a.length=x.length→nums op (a++b) (x++y)=nums op a x++nums op b y
 |[],[],_,_,_=>rfl
 |c::a,z::x,b,y,h=>by
  have ih:=nums_app op a x (b:=b) (y:=y) (by simpa using h)
  show(if c.op=op then z.2::nums op (a++b) (x++y)else nums op (a++b) (x++y))=(if c.op=op then z.2::nums op a x else nums op a x)++nums op b y
  rw[ih]
  split<;>rfl
theorem nums_no(op:Int):∀(a:List Act) (x:List (Int×Int)),(∀b,b∈a→b.op≠op)→nums op a x=[]
 |[],_,_=>rfl
 |c::a,[],_=>rfl
 |c::a,z::x,h=>by
  show(if c.op=op then _ else nums op a x)=[]
  rw[if_neg (h c (by simp)),nums_no op a x (fun b hb=>h b (by simp[hb]))]
theorem nums_run(op:Int)(s:Ideal)(l r:List Act):nums op (l++r) (ansI s (l++r))=nums op l (ansI s l)++nums op r (ansI (runI s l) r):=by
 rw[ansI_app,nums_app op _ _ (by rw[ansI_len])]
def totI(s:Ideal):Int:=(s.things.map fun n=>1+(n.pairs.length:Int)).sum
theorem sum_map_range(l:List Nd):((List.range l.length).map fun i:Nat=>1+((l.getD i Nd.none).pairs.length:Int))=l.map fun n=>1+(n.pairs.length:Int):=by
 refine List.ext_getElem (by simp) (fun i h1 h2=>?_)
 simp only[List.length_map]at h2
 rw[List.getElem_map,List.getElem_map,List.getElem_range,List.getD_eq_getElem?_getD,List.getElem?_eq_getElem h2]
 rfl
theorem sum_filter_le(f:Nat→Int)(hf:∀i,0≤f i)(p:Nat→Bool):∀l:List Nat,((l.filter p).map f).sum≤(l.map f).sum
 |[]=>by simp
 |a::r=>by
  have ih:=sum_filter_le f hf p r
  have:=hf a
  by_cases h:p a=true
  ·rw[List.filter_cons_of_pos h];simp only[List.map_cons,List.sum_cons];omega
  ·rw[List.filter_cons_of_neg h];simp only[List.map_cons,List.sum_cons];omega
theorem posI_snd(s:Ideal)(Q:Int→Prop):(posI s Q).map Prod.snd=((List.range s.things.length).filter fun i:Nat=>decide (Q ((i:Int)+1))).map fun i:Nat=>1+((s.things.getD i Nd.none).pairs.length:Int):=by
 unfold posI
 rw[List.map_map];rfl
theorem posI_le(s:Ideal)(Q:Int→Prop):((posI s Q).map Prod.snd).sum≤totI s:=by
 rw[posI_snd]
 have:=sum_filter_le (fun i:Nat=>1+((s.things.getD i Nd.none).pairs.length:Int)) (fun i=>by omega) (fun i:Nat=>decide (Q ((i:Int)+1))) (List.range s.things.length)
 rw[sum_map_range]at this
 exact this
theorem posI_eq{s:Ideal}{Q:Int→Prop}{u:List (Int×Int)}(hu:u.Nodup)(h:∀b n,(ndI s b=some n∧Q b)↔(b,1+(n.pairs.length:Int))∈u∧ndI s b=some n)(h2:∀x,x∈u→∃n,ndI s x.1=some n∧x.2=1+n.pairs.length):((posI s Q).map Prod.snd).sum=(u.map Prod.snd).sum:=by
 refine sum_same (posI_nodup s Q) hu (fun x=>?_) (fun x hx=>?_)
 ·rw[posI_mem]
  obtain⟨x1,x2⟩:=x
  constructor
  ·rintro⟨n,a,b,c⟩
   have:=((h x1 n).1 ⟨a,b⟩).1
   simp only at c
   rw[c];exact this
  ·intro hx
   obtain⟨n,a,b⟩:=h2 _ hx
   simp only at a b
   have:=((h x1 n).2 ⟨by rw[←b];exact hx,a⟩)
   exact⟨n,a,this.2,b⟩
 ·obtain⟨n,_,b⟩:=h2 x hx
  omega
abbrev W0:Word:=⟨0,0,0⟩
abbrev Wc(b:Int):Word:=⟨2,0,b⟩
abbrev rg(a b c d e f g:Word):List Word:=[a,b,c,d,e,f,g,W0,W0,W0,W0,W0,W0,W0,W0,W0]
theorem i_act{s:Ideal}{a:Act}(h:ActP a):actI s a=doI s a:=by unfold actI;rw[if_pos h]
theorem i_new{s:Ideal}{r k c:Int}(hP:ActP ⟨1,r,k,c,0⟩)(hl:totI s+(1+c)≤s.room):actI s ⟨1,r,k,c,0⟩=⟨(s.push ⟨k,0,0,List.replicate c.toNat Pair.no⟩).setR r ⟨2,0,s.things.length+1⟩,0,0⟩:=by
 rw[i_act hP]
 have:=posI_le s (ReachI s)
 unfold doI newI
 rw[if_pos rfl,if_pos (show liveI s+(1+c)≤s.room by unfold liveI;omega)]
theorem i_step{s:Ideal}{u:Int}(hP:ActP ⟨22,0,0,u,0⟩):actI s ⟨22,0,0,u,0⟩=⟨s,0,0⟩:=by
 rw[i_act hP];rfl
theorem i_round{s:Ideal}:actI s ⟨24,0,0,0,0⟩=⟨s,0,0⟩:=by
 rw[i_act (by simp[ActP,aMost,bMost,cMost])];rfl
theorem i_settle{s:Ideal}:actI s ⟨18,0,0,0,0⟩=⟨settleI s,0,duesI s⟩:=by
 rw[i_act (by simp[ActP,aMost,bMost,cMost])];rfl
theorem i_live{s:Ideal}:actI s ⟨21,0,0,0,0⟩=⟨s,0,liveI s⟩:=by
 rw[i_act (by simp[ActP,aMost,bMost,cMost])];rfl
theorem i_nil{s:Ideal}{r:Int}(hr:0≤r∧r≤15):actI s ⟨3,r,0,0,0⟩=⟨s.setR r W0,0,0⟩:=by
 rw[i_act (by simp[ActP,aMost,bMost,cMost];exact hr)];rfl
theorem i_num{s:Ideal}{r n:Int}(hr:0≤r∧r≤15):actI s ⟨2,r,0,0,n⟩=⟨s.setR r ⟨1,n,0⟩,0,0⟩:=by
 rw[i_act (by simp[ActP,aMost,bMost,cMost];exact hr)];rfl
theorem i_copy{s:Ideal}{r q:Int}(hr:0≤r∧r≤15)(hq:0≤q∧q≤15):actI s ⟨4,r,q,0,0⟩=⟨s.setR r (s.getR q),0,0⟩:=by
 rw[i_act (by simp[ActP,aMost,bMost,cMost];exact⟨hr,hq⟩)];rfl
theorem i_setval{s:Ideal}{r q b:Int}{i:Nat}{n:Nd}{p:Pair}(hr:0≤r∧r≤15)(hq:0≤q∧q≤15)(hi:i≤199)(hw:s.getR r=Wc b)(hn:ndI s b=some n)(hp:n.pairs[i]?=some p):
 actI s ⟨8,r,q,i,0⟩=⟨s.upd b {n with pairs:=n.pairs.set i ⟨p.key,s.getR q⟩},0,0⟩:=by
 rw[i_act (by simp[ActP,aMost,bMost,cMost];omega)]
 show pairI s _=_
 unfold pairI
 simp only[Int.reduceEq,or_self,if_false,if_true,hw,nd_of hn,Int.toNat_natCast,hp]
 rfl
theorem i_val{s:Ideal}{r q b:Int}{n:Nd}{p:Pair}(hr:0≤r∧r≤15)(hq:0≤q∧q≤15)(hw:s.getR q=Wc b)(hn:ndI s b=some n)(hp:n.pairs[0]?=some p):
 actI s ⟨6,r,q,0,0⟩=⟨s.setR r p.val,0,0⟩:=by
 rw[i_act (by simp[ActP,aMost,bMost,cMost];omega)]
 show pairI s _=_
 unfold pairI
 simp only[Int.reduceEq,false_or,if_false,if_true,hw,nd_of hn,Int.toNat_zero,hp]
 rfl
theorem i_last{s:Ideal}{r b c:Int}{n:Nd}(hr:0≤r∧r≤15)(hc:0≤c∧c≤1)(hw:s.getR r=Wc b)(hn:ndI s b=some n):actI s ⟨12,r,0,c,0⟩=⟨s.upd b {n with last:=c},0,0⟩:=by
 rw[i_act (by simp[ActP,aMost,bMost,cMost];omega)]
 show cellI s _=_
 unfold cellI
 simp only[hw,nd_of hn]
 rfl
theorem i_kind{s:Ideal}{r b:Int}{n:Nd}(hr:0≤r∧r≤15)(hw:s.getR r=Wc b)(hn:ndI s b=some n):actI s ⟨16,r,0,0,0⟩=⟨s,0,n.kind⟩:=by
 rw[i_act (by simp[ActP,aMost,bMost,cMost];omega)]
 show cellI s _=_
 unfold cellI
 simp only[hw,nd_of hn]
 rfl
theorem i_kind0{s:Ideal}{r:Int}(hr:0≤r∧r≤15)(hw:s.getR r=W0):actI s ⟨16,r,0,0,0⟩=⟨s,2,0⟩:=by
 rw[i_act (by simp[ActP,aMost,bMost,cMost];omega)]
 show cellI s _=_
 unfold cellI
 simp only[hw]
 rfl
theorem i_number{s:Ideal}{r n:Int}(hr:0≤r∧r≤15)(hw:s.getR r=⟨1,n,0⟩):actI s ⟨15,r,0,0,0⟩=⟨s,0,n⟩:=by
 rw[i_act (by simp[ActP,aMost,bMost,cMost];omega)]
 unfold doI
 simp only[hw]
 rfl
theorem i_due{s:Ideal}{r:Int}{k:Nat}{n:Nd}(hr:0≤r∧r≤15)(hd:dueI s=some k)(hn:ndI s ((k:Int)+1)=some n):actI s ⟨19,r,0,0,0⟩=⟨(s.upd ((k:Int)+1) {n with last:=3}).setR r (Wc ((k:Int)+1)),0,1⟩:=by
 rw[i_act (by simp[ActP,aMost,bMost,cMost];omega)]
 show dueA s _=_
 unfold dueA
 simp only[hd,nd_of hn]
theorem i_due0{s:Ideal}{r:Int}(hr:0≤r∧r≤15)(hd:dueI s=none):actI s ⟨19,r,0,0,0⟩=⟨s.setR r W0,0,0⟩:=by
 rw[i_act (by simp[ActP,aMost,bMost,cMost];omega)]
 show dueA s _=_
 unfold dueA
 simp only[hd]
theorem keyI0:KeyI 0:=by unfold KeyI;rfl
theorem valI0:ValI 0:=by unfold ValI;rfl
end Go.Proofs.YtpleoapljeffiaaDoor.E
set_option maxHeartbeats 8000000
set_option maxRecDepth 100000
namespace Go.Proofs.YtpleoapljeffiaaDoor.E
open Go
open Classical
theorem nums_take{op:Int}{acts:List Act}{ans:List (Int×Int)}{i:Nat}{b:Act}{r:Int×Int}(ga:acts[i]?=some b)(gr:ans[i]?=some r):nums op (acts.take (i+1)) (ans.take (i+1))=nums op (acts.take i) (ans.take i)++(if b.op=op then[r.2]else[]):=by
 have h1:=(List.getElem?_eq_some_iff.1 ga).1
 have h2:=(List.getElem?_eq_some_iff.1 gr).1
 rw[List.take_add_one,List.take_add_one,ga,gr,nums_app _ _ _ (by rw[List.length_take,List.length_take];omega)]
 rfl
theorem nums_le(op:Int):∀(a:List Act) (x:List (Int×Int)),(nums op a x).length≤a.length
 |[],_=>by simp[nums]
 |c::a,[]=>by simp[nums]
 |c::a,z::x=>by
  have:=nums_le op a x
  show(if c.op=op then z.2::nums op a x else nums op a x).length≤_
  split<;>simp<;>omega
theorem wNums_a{acts:List Act}{ans:List (Int×Int)}{d e:D}{op:Int}(hl:acts.length=ans.length)(hb:acts.length≤1000):FnA Tryd.prog 9 [.slice d.a acts.length d.cap,.slice e.a ans.length e.cap,.int .i64 op] [slA 5 av d acts,slA 2 anv e ans] (fun v As=>∃g:D,v=.slice g.a (nums op acts ans).length g.cap∧As=[slA 1 iv g (nums op acts ans),slA 5 av d acts,slA 2 anv e ans]):=by
 refine fnA_of (fun h=>fn9 (by simp) h) ?_
 repeat' (first
  |(refine k_L ?_;refine a_p rfl ?_)
  |refine a_n ?_
  |(refine k_V ?_;first|refine v_seq ?_|refine v_reg ?_)
  |refine s_n ?_)
 refine g_range acts.length (fun q:D×List Int=>[(0,.v (.slice d.a acts.length d.cap)),(1,.v (.slice e.a ans.length e.cap)),(2,.v (.int .i64 op)),(7,.v (.slice q.1.a q.2.length q.1.cap))]) (fun q=>[slA 1 iv q.1 q.2,slA 5 av d acts,slA 2 anv e ans]) (fun i q=>q.2=nums op (acts.take i) (ans.take i)) (⟨none,0⟩,[]) rfl (fun i q hi hv=>?_) (fun q hv=>?_) (hent:=(ent_new (f:=iv) (size:=1)).trans (Pm.ent pmt))
 ·obtain⟨g,l⟩:=q
  dsimp only at hv⊢
  obtain⟨b,gb⟩:∃b,acts[i]?=some b:=⟨_,List.getElem?_eq_getElem hi⟩
  obtain⟨r,gr⟩:∃r,ans[i]?=some r:=⟨_,List.getElem?_eq_getElem (by omega)⟩
  have hlen:l.length≤1000:=by
   rw[hv]
   have:=nums_le op (acts.take i) (ans.take i)
   rw[List.length_take]at this;omega
  have hn:=nums_take (op:=op) gb gr
  repeat' (first
   |(refine k_L ?_;first|refine a_p rfl ?_|(refine k_g ?_;first|refine a_gy rfl rfl ?_|refine a_gn rfl rfl ?_|(refine a_gd rfl (fun hb=>?_) (fun hb=>?_)<;>try(exfalso;omega)))|(refine k_l ?_;first|refine a_l rfl (by exact rd_t (rd_h (rd_sl (fun _=>rfl) gb rfl))) ?_|refine a_l rfl (by exact rd_t (rd_t (rd_h (rd_sl (fun _=>rfl) gr rfl)))) ?_)|(refine k_i ?_;refine g_i rfl rfl ?_)|(refine k_bl ?_;refine a_bl rfl ?_)|(refine g_ai (xs:=l) rfl rfl (by omega) (fun e'=>?_) (hb:=by omega)))
   |refine a_n ?_
   |(refine k_V ?_;first|refine v_seq ?_|refine v_reg ?_|refine v_skip ?_|refine v_cf rfl ?_|(refine v_cd rfl (fun hb=>?_) (fun hb=>?_)<;>try(exfalso;omega))))
  ·exact r_nx (e',l++[r.2]) (by dsimp only;rw[hn,if_pos ‹b.op=op›,hv])
  ·exact r_nx (g,l) (by dsimp only;rw[hn,if_neg hb,List.append_nil,hv])
 ·obtain⟨g,l⟩:=q
  dsimp only at hv⊢
  rw[List.take_length,hl,List.take_length]at hv
  subst hv
  repeat' (first
   |(refine k_L ?_;refine a_p rfl ?_)
   |refine a_n ?_
   |(refine k_V ?_;first|refine v_seq ?_|refine v_reg ?_|refine v_ret ?_))
  exact fa_r (As':=[slA 1 iv g (nums op acts ans),slA 5 av d acts,slA 2 anv e ans]) (fun _ _=>rfl) (Pm.ent pmt) ⟨g,rfl,rfl⟩
theorem wInts_t{m:Mem}{d e:D}{xs:List Int}(hx:Has m [slA 1 iv d xs])(hy:Has m [slA 1 iv e xs]):Qt Tryd.prog 10 [.slice d.a xs.length d.cap,.slice e.a xs.length e.cap] m (.bool true):=by
 have hbd:xs.length≤140737488355328:=by obtain⟨a,l,s⟩:=hx;exact(kn_h bd_sl).out a s
 refine qt_of (fnA_of (fun h=>fn10 (by simp) h) ?_)
 repeat' (first
  |(refine k_L ?_;refine a_p rfl ?_)
  |refine a_n ?_
  |(refine k_V ?_;first|refine v_seq ?_|refine v_reg ?_|refine v_skip ?_|(refine v_cn rfl (fun hb=>?_) (fun hb=>?_)<;>try(exfalso;omega)))
  |refine s_n ?_)
 refine g_range xs.length (fun _:Unit=>[(0,.v (.slice d.a xs.length d.cap)),(1,.v (.slice e.a xs.length e.cap))]) (fun _=>[ro m]) (fun _ _=>True) () trivial (fun i _ hi _=>?_) (fun _ _=>?_)
 ·obtain⟨w,gw⟩:∃w,xs[i]?=some w:=⟨_,List.getElem?_eq_getElem hi⟩
  repeat' (first
   |(refine k_L ?_;first|refine a_p rfl ?_|(refine k_l ?_;refine g_l rfl ?_)|(refine k_i ?_;refine g_i rfl rfl ?_)|(refine a_i (e:=d) rfl rfl (kn_h (kn_ro hx (kn_h (bs_sl gw)))) (by omega) ?_)|(refine a_l rfl (rd_h (rd_ro hx (rd_h (rd_sl (j:=0) (fun _=>rfl) gw rfl)))) ?_))
   |refine a_n ?_
   |(refine k_V ?_;first|refine v_seq ?_|refine v_reg ?_|refine v_dreg ?_|refine v_skip ?_|(refine v_cn rfl (fun hb=>?_) (fun hb=>?_)<;>try(exfalso;omega))))
  all_goals first
   |exact r_nx () trivial
   |(exfalso;simp at hb;done)
 ·repeat' (first
   |refine a_n ?_
   |(refine k_V ?_;refine v_rv ?_))
  exact fa_q (by simp) (fun _ _=>rfl) rfl
def Heap.nw(room:Int):Heap:=⟨room,0,0,List.replicate 16 ⟨0,0,0⟩,[],0,0,0,[],0,0,0,0⟩
theorem nw_sound{room:Int}(h:1≤room∧room≤4000):Sound (Heap.nw room) where
 r1:=⟨h,by simp[Heap.nw],by simp[Heap.nw];omega,by simp[Heap.nw],by simp[Heap.nw],by simp[Heap.nw],by simp[Heap.nw],by simp[Heap.nw],by simp[Heap.nw],by simp[Heap.nw],by simp[Heap.nw],by simp[Heap.nw]⟩
 r2:=⟨fun i c hc=>by simp[Heap.nw]at hc,fun i j c d hc=>by simp[Heap.nw]at hc,fun i j c d hc=>by simp[Heap.nw]at hc⟩
 r3:=⟨rfl,by show(0:Int)≤room;omega⟩
 r4:=⟨fun w hw=>by
  have:w=⟨0,0,0⟩:=List.eq_of_mem_replicate hw
  subst this
  exact⟨.inl ⟨rfl,rfl,rfl⟩,fun hk=>by simp at hk⟩,fun i c hc=>by simp[Heap.nw]at hc,fun i c hc=>by simp[Heap.nw]at hc⟩
 r5:=⟨fun hm=>by rcases hm with h|h<;>simp[Heap.nw]at h,fun _=>⟨rfl,fun i c hc=>by simp[Heap.nw]at hc⟩⟩
 r6:=by unfold R6;rw[if_pos (.inl rfl)];exact⟨rfl,rfl⟩
 r7:=fun hm=>by rcases hm with h|h<;>simp[Heap.nw]at h
 r8:=fun h=>by simp[Heap.nw]at h
theorem freshI_a{room:Int}(h:1≤room∧room≤4000):FnA Tryd.prog 16 [.int .i64 room] [] (fun v As'=>∃z:HX,v=z.v∧As'=z.body∧z.H=Heap.nw room):=by
 refine fnA_of (fun h=>fn16 (by simp) h) ?_
 repeat' (first
  |(refine k_L ?_;first|refine a_p rfl ?_|(refine k_st ?_;refine g_sw rfl rfl rfl rfl (Nat.le_of_ble_eq_true rfl) ?_)|(refine k_al ?_;refine a_al ?_)|(refine k_c ?_;refine a_cq rfl (fun m hm=>impl.withinQ) ?_)|(refine a_mk (f:=wv) (n:=16) (k:=16) ⟨0,0,0⟩ wv_len rfl rfl rfl (by omega) (by omega) (fun g hg=>?_)))
  |refine a_n ?_
  |(refine k_V ?_;first|refine v_seq ?_|refine v_reg ?_|refine v_ret ?_|refine v_skip ?_|(refine v_cnd rfl (fun hb=>?_) (fun hb=>?_)<;>try(exfalso;omega)))
  |refine sk_zero ?_
  |refine sk_succ ?_
  |refine wk_nil ?_
  |refine wk_cons ?_)
 refine fa_r (As':=(⟨room,0,0,List.replicate 16 ⟨0,0,0⟩,[],0,0,0,[],0,0,0,0,g,⟨none,0⟩,⟨none,0⟩⟩:HX).body) (fun _ _=>rfl) ?_ ⟨_,rfl,rfl,rfl⟩
 refine Ent.trans (ent_new (f:=iv) (size:=1)) ?_
 refine Ent.trans (ent_new (f:=csv) (size:=8)) ?_
 refine Ent.trans (cl_nil (d:=⟨none,0⟩)) ?_
 exact Pm.ent pmt
theorem playable_q{m:Mem}{room:Int}{sa:Option Addr}{n cap:Nat}(hn:n≤1000)(hr:1≤room∧room≤4000):Qt Tryd.prog 15 [.int .i64 room,.slice sa n cap] m (.bool true):=by
 refine qt_of (fnA_of (fun h=>fn15 (by simp) h) ?_)
 repeat' (first
  |(refine k_L ?_;first|refine a_p rfl ?_|(refine k_g ?_;first|refine a_gy rfl rfl ?_|(refine a_gd rfl (fun hb=>?_) (fun hb=>?_)<;>try(exfalso;omega)))|(refine k_c ?_;refine a_cq rfl (fun m hm=>impl.withinQ) ?_))
  |refine a_n ?_
  |(refine k_V ?_;first|refine v_seq ?_|refine v_reg ?_|refine v_ret ?_))
 all_goals first
  |(exfalso;omega)
  |exact fa_q (by simp) (fun _ _=>rfl) (by congr 1;simp;omega)
def plV(b:Bool)(sd:D)(n:Nat)(x:HX):Value:=.agg (.bool b::.slice sd.a n sd.cap::x.row).toArray
theorem wr_off:∀(vs cs ds:List Value),ds.length=vs.length→wr (cs++ds) cs.length vs=cs++vs
 |[],cs,ds,h=>by
  have:ds=[]:=List.eq_nil_of_length_eq_zero h
  subst this;rfl
 |v::r,cs,d::ds,h=>by
  show wr ((cs++d::ds).set cs.length v) (cs.length+1) r=_
  have e:(cs++d::ds).set cs.length v=(cs++[v])++ds:=by
   rw[List.set_append_right _ _ (Nat.le_refl _),Nat.sub_self];simp
  rw[e,show cs.length+1=(cs++[v]).length by simp,wr_off r (cs++[v]) ds (by simpa using h)]
  simp
theorem wr_full{vs ds:List Value}(h:ds.length=vs.length):wr ds 0 vs=vs:=wr_off vs [] ds h
theorem up_full{b:Nat}{z vs:List Value}(h:z.length=vs.length):UpA (bx b z) b 0 vs (bx b vs):=up_bx (by omega) ⟨by rw[wr_full h]⟩
section
variable {P:Program} {S:St} {As:List Asr} {post:St→List Asr→Prop} {r:List I} {d:Option Nat}
theorem a_sth{p y:Operand}{b:Nat}{z:List Value}(x:HX)(hp:lc S p=some (.mm b 0))(hy:ev S y=some x.v)(hz:z.length=13)(h:LA P r post S (hdA b x.hdr::As)):LA P (⟨d,none,.store 13 p y⟩::r) post S (bx b z::As):=
 a_st hp hy rfl rfl (up_h (up_full (vs:=x.row) hz)) h
theorem g_swf{n:Nat}{x y:Operand}{s:Nat}{cs vs:List Value}(hx:lc S x=some (.bx s 0))(hb:S s=.box cs)(hy:ev S y=some (.agg vs.toArray))(hn:vs.length=n)(hl:cs.length=n)(hpl:plainCells vs=true)
 (h:LA P r post (upF S s (.box vs)) As):LA P (⟨d,none,.store n x y⟩::r) post S As:=
 g_sw (v:=.agg vs.toArray) hx hb hy hn (by omega) ⟨by show LA P r post (upF S s (.box (wr cs 0 vs))) As;rw[wr_full (by omega)];exact h⟩ hpl
end
theorem play_a{m:Mem}{acts:List Act}{d:D}{room:Int}(hact:∀(a:Nat) (b:Act) (x:HX),b∈acts→Sound x.H→FnA Tryd.prog 27 [eV a,actV b] (hp a x++[ro m]) (fun v As=>∃z:HX,v=an (actA x.H b).code (actA x.H b).num∧As=hp a z++[ro m]∧z.H=(actA x.H b).heap))(hb:acts.length≤1000)(hr:1≤room∧room≤4000):
 FnA Tryd.prog 8 [.int .i64 room,.slice d.a acts.length d.cap] [slA 5 av d acts,ro m] (fun v As=>∃(z:HX) (sd:D),v=plV true sd (ansL (Heap.nw room) acts).length z∧As=z.body++[slA 2 anv sd (ansL (Heap.nw room) acts),slA 5 av d acts,ro m]∧z.H=runH (Heap.nw room) acts):=by
 refine fnA_of (fun h=>fn8 (by simp) h) ?_
 repeat' (first
  |(refine k_L ?_;first|refine a_p rfl ?_|(refine k_al ?_;refine a_al ?_)|(refine k_c ?_;refine a_cq rfl (fun m hm=>playable_q hb hr) ?_)|(refine g_c rfl (freshI_a hr) (fun v As' hq=>?_);obtain⟨z,rfl,rfl,hz⟩:=hq))
  |refine a_n ?_
  |(refine k_V ?_;first|refine v_seq ?_|refine v_reg ?_|refine v_skip ?_|refine v_cf rfl ?_))
 refine a_nz (fun b=>?_)
 refine a_sth z rfl rfl rfl ?_
 repeat' (first
  |(refine k_L ?_;refine a_p rfl ?_)
  |refine a_n ?_
  |(refine k_V ?_;first|refine v_seq ?_|refine v_reg ?_))
 refine g_c rfl (all_a (x:=z) (d:=d) (hact b) (by rw[hz];exact nw_sound hr) hb) (fun v As' hq=>?_)
 obtain⟨u,sd,rfl,rfl,hu⟩:=hq
 rw[hz]at hu⊢
 refine a_p rfl (a_n (s_n (v_seq (v_reg (a_p rfl ?_)))))
 refine a_ls rfl (rs_h rs_hd) ?_
 refine a_p (sv:=.v (plV true sd (ansL (Heap.nw room) acts).length u)) rfl ?_
 refine g_swf (vs:=.bool true::.slice sd.a (ansL (Heap.nw room) acts).length sd.cap::u.row) rfl rfl rfl rfl rfl rfl ?_
 repeat' (first
  |refine a_n ?_
  |(refine k_V ?_;refine v_ret ?_))
 exact fa_r (As':=u.body++[slA 2 anv sd (ansL (Heap.nw room) acts),slA 5 av d acts,ro m]) (fun _ _=>rfl) (Pm.ent pmt) ⟨u,sd,rfl,rfl,hu⟩
def CS.s_take(y:CS)(n:Nat):CS:={y with c:={y.c with pairs:=y.c.pairs.take n}}
theorem ent_take{α:Type}{f:α→List Value}{size:Nat}(hs:∀x,(f x).length=size){d:D}{xs:List α}{k:Nat}(hk:k≤xs.length){R:List Asr}:Ent (slA size f d xs::R) (slA size f d (xs.take k)::R):=ent_h fun m h=>sl_take hs h hk
theorem a_kn{P:Program}{l:List I}{post:St→List Asr→Prop}{S:St}{As:List Asr}{p:Prop}(hk:Kn As p)(h:p→LA P l post S As):LA P l post S As:=⟨fun m hm=>(h (hk.out m hm)).out m hm⟩
theorem cutE_a{a:Nat}{x:HX}{i n:Nat}(h:Sound x.H)(hi:i<x.xs.length)(hs:(x.H.getC i).state=1):FnA Tryd.prog 45 [eV a,.int .i64 i,.int .i64 n] (hp a x) (fun v As=>∃z:HX,As=hp a z∧z.H=x.H.cutH i n):=by
 have hl:=x.len
 have hi':i<x.H.cells.length:=by omega
 have hub:=used_b h
 have hpl:=getC_pl h.r2 i
 have hsb:=h.r1.sub
 have hnc:x.hdr.nc=x.xs.length:=rfl
 have hu0:x.hdr.used=x.used:=rfl
 have hs0:x.hdr.sub=x.sub:=rfl
 have hs1:x.H.sub=x.sub:=rfl
 obtain⟨y,gy,gc⟩:=HX.at hi
 have gk:=HX.gc gy
 refine fnA_of (fun h=>fn45 (by simp) h) ?_
 unfold Heap.cutH
 rw[gk]at hpl⊢
 by_cases c:n<y.c.pairs.length
 ·rw[if_pos c]
  have key:∀(z:HX),z={x with xs:=x.xs.set i (y.s_take n),used:=x.used-(y.c.pairs.length-n)}→z.H.walkedI=x.H.walkedI∧z.xs.length=x.xs.length∧z.xs[i]?=some (y.s_take n)∧z.hdr.sub=x.sub∧z.hdr.nc=x.xs.length:=fun z hz=>by
   subst hz
   refine⟨?_,by simp,by simp[hi],rfl,by simp[HX.hdr]⟩
   unfold Heap.walkedI
   have:(HX.H {x with xs:=x.xs.set i (y.s_take n),used:=x.used-(y.c.pairs.length-n)}).cells.length=x.H.cells.length:=by simp[HX.H]
   rw[this];rfl
  have cutE:∀(z:HX) (s:Int),z={x with xs:=x.xs.set i (y.s_take n),used:=x.used-(y.c.pairs.length-n),sub:=s}→s=(if x.H.walkedI=i then min x.H.sub n else x.H.sub)→z.H=x.H.cutN i n:=fun z s hz e=>by
   subst hz
   unfold Heap.cutN Heap.putC
   rw[gk,←e]
   unfold HX.H
   simp only[List.map_set];rfl
  repeat' (first
   |(refine k_L ?_;first|(refine k_su ?_;refine g_su rfl rfl ?_)|refine a_p rfl ?_|(refine k_l ?_;refine g_l rfl ?_)|(refine k_i ?_;refine g_i rfl rfl ?_)|(refine k_st ?_;refine g_st rfl rfl rfl rfl ?_)|(refine k_bx ?_;refine a_bx rfl rfl ?_))
   |refine a_n ?_
   |(refine k_V ?_;first|refine v_seq ?_|refine v_reg ?_|refine v_dreg ?_|(refine v_cd rfl (fun hb=>?_) (fun hb=>?_)<;>try(exfalso;omega))))
  refine LA.ent (Bs:=[slA 8 csv x.cd x.xs,slA 6 pv y.d y.c.pairs,prA (x.xs.eraseIdx i),hdA a (x.hdr.s_used (x.used-(y.c.pairs.length-n))),slA 3 wv x.rd x.regs,slA 1 iv x.gd x.gray]) ?_ ?_
  ·exact(Pm.ent (As1:=[clA x.cd x.xs,hdA a (x.hdr.s_used (x.used-(y.c.pairs.length-n))),slA 3 wv x.rd x.regs,slA 1 iv x.gd x.gray]) pmt).trans ((cl_spl gy).trans (Pm.ent pmt))
  refine a_kn (kn_t (kn_h cp_sl)) fun hcap=>?_
  repeat' (first
   |(refine k_L ?_;first|refine a_p rfl ?_|(refine g_tk (e:=y.d) rfl rfl ?_))
   |refine a_n ?_)
  have htk:(y.s_take n).c.pairs.length=n:=by simp[CS.s_take];omega
  refine a_st (v:=.slice (y.s_take n).d.a (y.s_take n).c.pairs.length (y.s_take n).d.cap) rfl (by rw[htk];rfl) rfl rfl (up_h (up_sl (j:=7) (e':=y.s_take n) csv_len gy (Nat.le_of_ble_eq_true rfl) rfl)) ?_
  repeat' (first
   |(refine k_L ?_;refine a_p rfl ?_)
   |refine a_n ?_
   |(refine k_V ?_;first|refine v_seq ?_|refine v_reg ?_))
  obtain⟨k1,k2,k3,k4,k5⟩:=key _ rfl
  refine LA.ent (Bs:=hp a ({x with xs:=x.xs.set i (y.s_take n),used:=x.used-(y.c.pairs.length-n)}:HX)) ?_ ?_
  ·exact(((Pm.ent (As1:=[slA 6 pv y.d y.c.pairs,slA 8 csv x.cd (x.xs.set i (y.s_take n)),prA (x.xs.eraseIdx i),hdA a (x.hdr.s_used (x.used-(y.c.pairs.length-n))),slA 3 wv x.rd x.regs,slA 1 iv x.gd x.gray]) pmt).trans (ent_take pv_len (k:=n) (by omega))).trans (Pm.ent (As1:=[slA 8 csv x.cd (x.xs.set i (y.s_take n)),slA 6 pv (y.s_take n).d (y.s_take n).c.pairs,prA (x.xs.eraseIdx i),hdA a (x.hdr.s_used (x.used-(y.c.pairs.length-n))),slA 3 wv x.rd x.regs,slA 1 iv x.gd x.gray]) pmt)).trans ((cl_joi (y':=y.s_take n) (by omega)).trans (Pm.ent (fin ({x with xs:=x.xs.set i (y.s_take n),used:=x.used-(y.c.pairs.length-n)}:HX) (e1:=by simp[HX.hdr,Hdr.s_room,Hdr.s_used,Hdr.s_born,Hdr.s_phase,Hdr.s_hand,Hdr.s_sub,Hdr.s_per,Hdr.s_start,Hdr.s_rounds,Hdr.s_forced,Hdr.s_rd,Hdr.s_cd,Hdr.s_gd]))))
  have ct:(y.s_take n).c.pairs.length=n:=by simp[CS.s_take];omega
  repeat' (first
   |(refine k_L ?_;first|refine a_p rfl ?_|(refine k_l ?_;refine g_l rfl ?_)|(refine k_st ?_;refine g_st rfl rfl rfl rfl ?_)|(refine k_c ?_;refine a_cq rfl (fun m hm=>qt_e (walked_q (x:=({x with xs:=x.xs.set i (y.s_take n),used:=x.used-(y.c.pairs.length-n)}:HX)) (sep_has hm pmt)) (by rw[k1])) ?_))
   |refine a_n ?_
   |(refine k_V ?_;first|refine v_dreg ?_|refine v_skip ?_|(refine v_cd rfl (fun hb=>?_) (fun hb=>?_)<;>try(exfalso;omega))))
  ·refine fa_n (fun _ _=>rfl) (Pm.ent (fin ({x with xs:=x.xs.set i (y.s_take n),used:=x.used-(y.c.pairs.length-n),sub:=if((y.s_take n).c.pairs.length:Int)<x.sub then((y.s_take n).c.pairs.length:Int)else x.sub}:HX))) ⟨_,rfl,cutE _ _ rfl ?_⟩
   rw[if_pos hb.symm,ct,hs1]
   split<;>omega
  ·refine fa_n (fun _ _=>rfl) (Pm.ent pmt) ⟨_,rfl,cutE _ x.sub rfl ?_⟩
   rw[if_neg (fun e=>hb e.symm)];exact hs1.symm
 ·rw[if_neg c]
  repeat' (first
   |(refine k_L ?_;first|refine a_p rfl ?_|(refine k_l ?_;refine g_l rfl ?_)|(refine k_i ?_;refine g_i rfl rfl ?_)|(refine k_st ?_;refine g_st rfl rfl rfl rfl ?_)|(refine k_bx ?_;refine a_bx rfl rfl ?_)|(refine k_c ?_;refine a_cq rfl (fun m hm=>walked_q (x:=x) (sep_has hm pmt)) ?_))
   |refine a_n ?_
   |(refine k_V ?_;first|refine v_seq ?_|refine v_reg ?_|refine v_dreg ?_|refine v_skip ?_|(refine v_cd rfl (fun hb=>?_) (fun hb=>?_)<;>try(exfalso;omega))))
  ·have:=walked_sub h hi' hb.symm
   rw[gk,hs1]at this
   exact fa_n (fun _ _=>rfl) (Pm.ent (fin x (e1:=by simp[HX.hdr,Hdr.s_room,Hdr.s_used,Hdr.s_born,Hdr.s_phase,Hdr.s_hand,Hdr.s_sub,Hdr.s_per,Hdr.s_start,Hdr.s_rounds,Hdr.s_forced,Hdr.s_rd,Hdr.s_cd,Hdr.s_gd];omega))) ⟨x,rfl,rfl⟩
  ·exact fa_n (fun _ _=>rfl) (Pm.ent pmt) ⟨x,rfl,rfl⟩
theorem growE_a{a:Nat}{x:HX}{op n:Int}{ka kb kc j0:Nat}(h:Sound x.H)(ha:ka≤15)(hc:kc≤200)(hk0:(x.H.getR ka).kind=2)(hj0:(x.H.getR ka).at_=j0):FnA Tryd.prog 44 [eV a,.int .i64 j0,.agg #[.int .i64 op,.int .i64 ka,.int .i64 kb,.int .i64 kc,.int .i64 n]] (hp a x) (fun v As=>∃z:HX,v=an (doGrow x.H ⟨op,ka,kb,kc,n⟩).code (doGrow x.H ⟨op,ka,kb,kc,n⟩).num∧As=hp a z∧z.H=(doGrow x.H ⟨op,ka,kb,kc,n⟩).heap):=by
 have hl:=x.len
 have hnc:x.hdr.nc=x.xs.length:=rfl
 have hnr:x.hdr.nr=x.regs.length:=rfl
 have h16:x.regs.length=16:=h.r1.regs
 obtain⟨r1,r2⟩:=getR_ok h (r:=ka) (by omega) (by omega)
 obtain⟨b0,b1,b2,b3⟩:=r2 hk0
 rw[hj0]at b0 b1 b2 b3
 obtain⟨y,gy,gc⟩:=HX.at (x:=x) (i:=j0) (by omega)
 have gk:=HX.gc gy
 have hpl:=h.r2.pl (List.mem_of_getElem? gc)
 refine fnA_of (fun h=>fn44 (by simp) h) ?_
 obtain⟨f1,f2,f3,f4,f5,f6,f7⟩:=fits_ok h kc
 obtain⟨q1,q2⟩:=reg_len h f1 f2 f3 (r:=ka) (by omega) (by omega) hk0
 unfold doGrow
 dsimp only
 rw[hj0]at q2⊢
 rw[gk]at q2⊢
 by_cases c1:(y.c.pairs.length:Int)+kc>200
 ·rw[if_pos c1]
  repeat' (first
   |(refine k_L ?_;first|(refine k_ad ?_;refine g_ad rfl rfl ?_)|refine a_p rfl ?_|(refine k_l ?_;refine g_l rfl ?_)|(refine k_i ?_;refine g_i rfl rfl ?_)|(refine k_st ?_;refine g_sw rfl rfl rfl rfl (Nat.le_of_ble_eq_true rfl) ?_)|(refine k_al ?_;refine a_al ?_)|(refine k_bx ?_;refine a_bx rfl rfl ?_)|(refine k_c ?_;refine a_cq rfl (fun m hm=>codeE_q) ?_))
   |refine a_n ?_
   |(refine k_V ?_;first|refine v_seq ?_|refine v_reg ?_|refine v_dreg ?_|refine v_ret ?_|(refine v_cd rfl (fun hb=>?_) (fun hb=>?_)<;>try(exfalso;omega)))
   |refine s_r ?_
   |refine sk_zero ?_
   |refine sk_succ ?_
   |refine wk_nil ?_
   |refine wk_cons ?_)
  all_goals exact fa_r (fun _ _=>rfl) (Pm.ent pmt) ⟨x,rfl,rfl,rfl⟩
 ·rw[if_neg c1]
  generalize hF:x.H.fitsH kc=F at*
  by_cases c2:F.used+kc≤F.room
  ·rw[if_pos c2]
   have key:∀z:HX,z.H=F→∃(wm:Int) (i:Nat) (u:CS),z.regs[ka]?=some ⟨2,wm,i⟩∧z.xs[i]?=some u∧F.getC i=u.c∧(F.getR ka).at_=i∧i<F.cells.length∧z.xs.length=F.cells.length∧z.regs.length=16∧z.hdr.used=F.used:=by
    intro z hz
    have g16:z.regs.length=16:=by have:=f1.r1.regs;rw[←hz]at this;exact this
    obtain⟨v,gv⟩:∃w,z.regs[ka]?=some w:=⟨_,List.getElem?_eq_getElem (by omega)⟩
    have ev:F.getR ka=v:=by rw[←hz];exact getR_at gv
    obtain⟨_,s2⟩:=getR_ok f1 (r:=ka) (by omega) (by omega)
    rw[ev]at q1 s2⊢
    obtain⟨t0,t1,t2,t3⟩:=s2 q1
    obtain⟨i,hi⟩:=Int.eq_ofNat_of_zero_le t0
    obtain⟨vk,vn,vat⟩:=v
    dsimp only at q1 hi t1
    subst q1 hi
    have zl:=z.len
    rw[hz]at zl
    obtain⟨u,gu,gc'⟩:=HX.at (x:=z) (i:=i) (by omega)
    exact⟨vn,i,u,gv,gu,by rw[←hz];exact HX.gc gu,rfl,by omega,by omega,g16,congrArg Heap.used hz⟩
   repeat' (first
    |(refine k_L ?_;first|(refine k_ad ?_;refine g_ad rfl rfl ?_)|refine a_p rfl ?_|(refine k_l ?_;first|refine a_l rfl (by exact rd_t (rd_h (rd_sl (fun _=>rfl) gv rfl))) ?_|refine g_l rfl ?_)|(refine k_i ?_;refine g_i rfl rfl ?_)|(refine k_st ?_;refine g_sw rfl rfl rfl rfl (Nat.le_of_ble_eq_true rfl) ?_)|(refine k_al ?_;refine a_al ?_)|(refine k_bx ?_;refine a_bx rfl rfl ?_)|(refine k_c ?_;refine a_cq rfl (fun m hm=>codeE_q) ?_)|(refine g_c rfl (fits_a (x:=x) (u:=(kc:Int)) h (by omega)) (fun v As' hq=>?_);obtain⟨z,rfl,rfl,hz⟩:=hq;obtain⟨wm,i,u,gv,gu,gF,ei,hi,zl,z16,zu⟩:=key z (by rw[hz,hF]);have znc:z.hdr.nc=z.xs.length:=rfl;have znr:z.hdr.nr=z.regs.length:=rfl))
    |refine a_n ?_
    |(refine k_V ?_;first|refine v_seq ?_|refine v_reg ?_|refine v_dreg ?_|refine v_ret ?_|refine v_skip ?_|(refine v_cd rfl (fun hb=>?_) (fun hb=>?_)<;>try(exfalso;omega))|(refine v_cnd rfl (fun hb=>?_) (fun hb=>?_)<;>try(exfalso;omega)))
    |refine s_r ?_
    |refine sk_zero ?_
    |refine sk_succ ?_
    |refine wk_nil ?_
    |refine wk_cons ?_)
   ·exfalso;rw[hF]at hb<;>omega
   rw[hF]at hz
   have eL:u.c.pairs.length=y.c.pairs.length:=by rw[←gF,←ei];exact q2
   have i0:(F.getR ka).at_.toNat=i:=by omega
   have zb:=used_b (z:=z) (by rw[hz];exact f1)
   rw[i0]
   refine LA.ent (Bs:=[slA 6 pv u.d u.c.pairs,slA 8 csv z.cd z.xs,prA (z.xs.eraseIdx i),hdA a z.hdr,slA 3 wv z.rd z.regs,slA 1 iv z.gd z.gray]) ?_ ?_
   ·exact(Pm.ent (As1:=[clA z.cd z.xs,hdA a z.hdr,slA 3 wv z.rd z.regs,slA 1 iv z.gd z.gray]) pmt).trans ((cl_spl gu).trans (Pm.ent pmt))
   refine a_az (xs:=u.c.pairs) (e:=u.d) (k:=(kc:Int)) Pair.no pk_h pv_len (by omega) rfl rfl rfl (by omega) rfl (by omega) (fun e'=>?_)
   generalize hy:(⟨{u.c with pairs:=u.c.pairs++List.replicate kc Pair.no},e'.a,e'.cap⟩:CS)=un
   have ed:un.d=e'∧un.c.pairs=u.c.pairs++List.replicate kc Pair.no:=by rw[←hy];exact⟨rfl,rfl⟩
   repeat' (first
    |(refine k_L ?_;refine a_p rfl ?_)
    |refine a_n ?_)
   refine a_st rfl rfl rfl rfl (up_t (up_h (up_sl (j:=7) (e':=un) csv_len gu (Nat.le_of_ble_eq_true rfl) (by rw[←hy];rfl)))) ?_
   have zH:HX.H {z with xs:=z.xs.set i un,used:=z.used+kc}=F.growC i kc:=by
    unfold Heap.growC Heap.putC
    rw[gF,←hz,←hy]
    unfold HX.H
    simp only[List.map_set]
   repeat' (first
    |(refine k_L ?_;first|(refine k_ad ?_;refine g_ad rfl rfl ?_)|refine a_p rfl ?_|(refine k_l ?_;refine g_l rfl ?_)|(refine k_st ?_;refine g_st rfl rfl rfl rfl ?_))
    |refine a_n ?_
    |(refine k_V ?_;first|refine v_seq ?_|refine v_reg ?_|refine v_dreg ?_))
   refine LA.ent (Bs:=hp a ({z with xs:=z.xs.set i un,used:=z.used+kc}:HX)) ?_ ?_
   ·refine((Pm.ent (As1:=[slA 8 csv z.cd (z.xs.set i un),slA 6 pv un.d un.c.pairs,prA (z.xs.eraseIdx i),hdA a _,slA 3 wv z.rd z.regs,slA 1 iv z.gd z.gray]) (by rw[ed.1,ed.2];exact pmt)).trans (cl_joi (y':=un) (by omega))).trans (Pm.ent (fin ({z with xs:=z.xs.set i un,used:=z.used+kc}:HX) (e1:=by simp[HX.hdr,Hdr.s_room,Hdr.s_used,Hdr.s_born,Hdr.s_phase,Hdr.s_hand,Hdr.s_sub,Hdr.s_per,Hdr.s_start,Hdr.s_rounds,Hdr.s_forced,Hdr.s_rd,Hdr.s_cd,Hdr.s_gd])))
   have zS:Sound (HX.H {z with xs:=z.xs.set i un,used:=z.used+kc}):=by
    rw[zH]
    refine grow_sound f1 hi ?_ ?_ c2
    ·obtain⟨_,s2⟩:=getR_ok f1 (r:=ka) (by omega) (by omega)
     rw[ei]at s2
     exact(s2 q1).2.2.1
    ·rw[gF,eL];omega
   refine g_c rfl (pace_a (x:=({z with xs:=z.xs.set i un,used:=z.used+kc}:HX)) (u:=(kc:Int)) zS (by omega)) (fun v' As' hq=>?_)
   obtain⟨r,rfl,hr⟩:=hq
   repeat' (first
    |(refine k_L ?_;first|(refine k_st ?_;refine g_sw rfl rfl rfl rfl (Nat.le_of_ble_eq_true rfl) ?_)|(refine k_c ?_;refine a_cq rfl (fun m hm=>numE_q) ?_))
    |refine a_n ?_
    |(refine k_V ?_;first|refine v_seq ?_|refine v_reg ?_|refine v_ret ?_)
    |refine sk_zero ?_
    |refine sk_succ ?_
    |refine wk_nil ?_
    |refine wk_cons ?_)
   exact fa_r (fun _ _=>rfl) (Pm.ent pmt) ⟨r,rfl,rfl,by rw[hr];exact congrArg (fun K=>Heap.paceH K (kc:Int)) zH⟩
  ·rw[if_neg c2]
   repeat' (first
    |(refine k_L ?_;first|(refine k_ad ?_;refine g_ad rfl rfl ?_)|refine a_p rfl ?_|(refine k_l ?_;refine g_l rfl ?_)|(refine k_i ?_;refine g_i rfl rfl ?_)|(refine k_st ?_;refine g_sw rfl rfl rfl rfl (Nat.le_of_ble_eq_true rfl) ?_)|(refine k_al ?_;refine a_al ?_)|(refine k_bx ?_;refine a_bx rfl rfl ?_)|(refine k_c ?_;refine a_cq rfl (fun m hm=>codeE_q) ?_)|(refine g_c rfl (fits_a (x:=x) (u:=(kc:Int)) h (by omega)) (fun v As' hq=>?_);obtain⟨z,rfl,rfl,hz⟩:=hq))
    |refine a_n ?_
    |(refine k_V ?_;first|refine v_seq ?_|refine v_reg ?_|refine v_dreg ?_|refine v_ret ?_|refine v_skip ?_|(refine v_cd rfl (fun hb=>?_) (fun hb=>?_)<;>try(exfalso;omega))|(refine v_cnd rfl (fun hb=>?_) (fun hb=>?_)<;>try(exfalso;omega)))
    |refine s_r ?_
    |refine sk_zero ?_
    |refine sk_succ ?_
    |refine wk_nil ?_
    |refine wk_cons ?_)
   all_goals first
    |(exfalso;rw[hF]at hb;omega)
    |exact fa_r (fun _ _=>rfl) (Pm.ent pmt) ⟨z,rfl,rfl,by rw[hz,hF]⟩
    |trace_state
theorem doE_rd{a:Nat}{x:HX}{op n:Int}{ka kb kc:Nat}(h:Sound x.H)(ha:ka≤15)(hb:kb≤15)(ho:op=5∨op=6):FnA Tryd.prog 39 [eV a,.agg #[.int .i64 op,.int .i64 ka,.int .i64 kb,.int .i64 kc,.int .i64 n]] (hp a x) (fun v As=>∃z:HX,v=an (doPair x.H ⟨op,ka,kb,kc,n⟩).code (doPair x.H ⟨op,ka,kb,kc,n⟩).num∧As=hp a z∧z.H=(doPair x.H ⟨op,ka,kb,kc,n⟩).heap):=by
 have hl:=x.len
 have hnc:x.hdr.nc=x.xs.length:=rfl
 have hnr:x.hdr.nr=x.regs.length:=rfl
 have h16:x.regs.length=16:=h.r1.regs
 obtain⟨wa_,ga⟩:∃w,x.regs[ka]?=some w:=⟨_,List.getElem?_eq_getElem (by omega)⟩
 obtain⟨w,gw⟩:∃w,x.regs[kb]?=some w:=⟨_,List.getElem?_eq_getElem (by omega)⟩
 have er:x.H.getR kb=w:=getR_at gw
 obtain⟨r1,r2⟩:=getR_ok h (r:=kb) (by omega) (by omega)
 rw[er]at r1 r2
 refine fnA_of (fun h=>fn39 (by simp) h) ?_
 unfold doPair
 dsimp only
 rw[if_pos ho,er]
 by_cases hk:w.kind=2
 ·obtain⟨b0,b1,b2,b3⟩:=r2 hk
  obtain⟨j,hj⟩:=Int.eq_ofNat_of_zero_le b0
  have et:x.H.toI w=(j:Int):=by rw[toI_used hk b2,hj]
  have hwf:w.kind=2→0≤w.at_∧w.at_<x.H.cells.length:=fun _=>⟨b0,b1⟩
  rw[hj]at b1 b2
  obtain⟨y,gy,gc⟩:=HX.at (x:=x) (i:=j) (by omega)
  have gk:=HX.gc gy
  rw[if_neg (fun e=>e hk),hj,gk,Int.toNat_natCast]
  have hcj:x.H.cells[j]?=some y.c:=gc
  cases hpp:y.c.pairs[kc]? with
  |none=>
   have:=List.getElem?_eq_none_iff.1 hpp
   rcases ho with rfl|rfl
   ·repeat' (first
     |(refine k_L ?_;first|refine a_p rfl ?_|(refine k_l ?_;refine g_l rfl ?_)|(refine k_i ?_;refine g_i rfl rfl ?_)|(refine k_ls ?_;refine g_ls rfl ?_)|(refine k_st ?_;refine g_sw rfl rfl rfl rfl (Nat.le_of_ble_eq_true rfl) ?_)|(refine k_al ?_;refine a_al ?_)|(refine k_bx ?_;refine a_bx rfl rfl ?_)|(refine k_q ?_;refine a_q rfl (fun m hm=>qt_e (to_q (x:=x) (sep_has hm pmt) hwf) (by rw[et])) ?_)|(refine k_c ?_;refine a_cq rfl (fun m hm=>codeE_q) ?_))
     |refine a_n ?_
     |(refine k_V ?_;first|refine v_seq ?_|refine v_reg ?_|refine v_dreg ?_|refine v_bs ?_|refine v_ret ?_|refine v_skip ?_|refine v_ct rfl ?_|refine v_cf rfl ?_|(refine v_cd rfl (fun hb=>?_) (fun hb=>?_)<;>try(exfalso;omega)))
     |refine s_r ?_
     |refine b_r ?_
     |refine sk_zero ?_
     |refine sk_succ ?_
     |refine wk_nil ?_
     |refine wk_cons ?_)
    all_goals exact fa_r (fun _ _=>rfl) (Pm.ent pmt) ⟨x,rfl,rfl,rfl⟩
   ·repeat' (first
     |(refine k_L ?_;first|refine a_p rfl ?_|(refine k_l ?_;refine g_l rfl ?_)|(refine k_i ?_;refine g_i rfl rfl ?_)|(refine k_ls ?_;refine g_ls rfl ?_)|(refine k_st ?_;refine g_sw rfl rfl rfl rfl (Nat.le_of_ble_eq_true rfl) ?_)|(refine k_al ?_;refine a_al ?_)|(refine k_bx ?_;refine a_bx rfl rfl ?_)|(refine k_q ?_;refine a_q rfl (fun m hm=>qt_e (to_q (x:=x) (sep_has hm pmt) hwf) (by rw[et])) ?_)|(refine k_c ?_;refine a_cq rfl (fun m hm=>codeE_q) ?_))
     |refine a_n ?_
     |(refine k_V ?_;first|refine v_seq ?_|refine v_reg ?_|refine v_dreg ?_|refine v_bs ?_|refine v_ret ?_|refine v_skip ?_|refine v_ct rfl ?_|refine v_cf rfl ?_|(refine v_cd rfl (fun hb=>?_) (fun hb=>?_)<;>try(exfalso;omega)))
     |refine s_r ?_
     |refine b_r ?_
     |refine sk_zero ?_
     |refine sk_succ ?_
     |refine wk_nil ?_
     |refine wk_cons ?_)
    all_goals exact fa_r (fun _ _=>rfl) (Pm.ent pmt) ⟨x,rfl,rfl,rfl⟩
  |some p=>
   have:=(List.getElem?_eq_some_iff.1 hpp).1
   obtain⟨p1,p2,_⟩:=h.r4.pairs j y.c hcj kc p hpp
   have fk:p.key.kind=2→0≤p.key.at_∧p.key.at_<x.H.cells.length:=fun e=>p1.at e
   have fv:p.val.kind=2→0≤p.val.at_∧p.val.at_<x.H.cells.length:=fun e=>p2.at e
   rcases ho with rfl|rfl
   ·repeat' (first
     |(refine k_L ?_;first|refine a_p rfl ?_|(refine k_l ?_;refine g_l rfl ?_)|(refine k_i ?_;refine g_i rfl rfl ?_)|(refine k_ls ?_;refine g_ls rfl ?_)|(refine k_st ?_;first|refine g_st rfl rfl rfl rfl ?_|refine g_sw rfl rfl rfl rfl (Nat.le_of_ble_eq_true rfl) ?_)|(refine k_al ?_;refine a_al ?_)|(refine k_bx ?_;refine a_bx rfl rfl ?_)|(refine k_q ?_;first|refine a_q rfl (fun m hm=>qt_e (to_q (x:=x) (sep_has hm pmt) hwf) (by rw[et])) ?_|refine a_q rfl (fun m hm=>lead_q (x:=x.hs) (w:=p.key) (Has.ph (sep_has hm pmt)) fk) ?_)|(refine k_c ?_;refine a_cq rfl (fun m hm=>numE_q) ?_))
     |refine a_n ?_
     |(refine k_V ?_;first|refine v_seq ?_|refine v_reg ?_|refine v_dreg ?_|refine v_bs ?_|refine v_ret ?_|refine v_skip ?_|refine v_ct rfl ?_|refine v_cf rfl ?_|(refine v_cd rfl (fun hb=>?_) (fun hb=>?_)<;>try(exfalso;omega)))
     |refine sk_zero ?_
     |refine sk_succ ?_
     |refine wk_nil ?_
     |refine wk_cons ?_)
    all_goals exact fa_r (fun _ _=>rfl) (Pm.ent (fin ({x with regs:=x.regs.set ka (x.H.lead p.key)}:HX) (h1:=by simp[HX.hdr]))) ⟨_,rfl,rfl,rfl⟩
   ·repeat' (first
     |(refine k_L ?_;first|refine a_p rfl ?_|(refine k_l ?_;refine g_l rfl ?_)|(refine k_i ?_;refine g_i rfl rfl ?_)|(refine k_ls ?_;refine g_ls rfl ?_)|(refine k_st ?_;first|refine g_st rfl rfl rfl rfl ?_|refine g_sw rfl rfl rfl rfl (Nat.le_of_ble_eq_true rfl) ?_)|(refine k_al ?_;refine a_al ?_)|(refine k_bx ?_;refine a_bx rfl rfl ?_)|(refine k_q ?_;first|refine a_q rfl (fun m hm=>qt_e (to_q (x:=x) (sep_has hm pmt) hwf) (by rw[et])) ?_|refine a_q rfl (fun m hm=>lead_q (x:=x.hs) (w:=p.val) (Has.ph (sep_has hm pmt)) fv) ?_)|(refine k_c ?_;refine a_cq rfl (fun m hm=>numE_q) ?_))
     |refine a_n ?_
     |(refine k_V ?_;first|refine v_seq ?_|refine v_reg ?_|refine v_dreg ?_|refine v_bs ?_|refine v_ret ?_|refine v_skip ?_|refine v_ct rfl ?_|refine v_cf rfl ?_|(refine v_cd rfl (fun hb=>?_) (fun hb=>?_)<;>try(exfalso;omega)))
     |refine sk_zero ?_
     |refine sk_succ ?_
     |refine wk_nil ?_
     |refine wk_cons ?_)
    all_goals exact fa_r (fun _ _=>rfl) (Pm.ent (fin ({x with regs:=x.regs.set ka (x.H.lead p.val)}:HX) (h1:=by simp[HX.hdr]))) ⟨_,rfl,rfl,rfl⟩
 ·have et:=toI_no (H:=x.H) hk
  rw[if_pos hk]
  rcases ho with rfl|rfl
  ·repeat' (first
    |(refine k_L ?_;first|refine a_p rfl ?_|(refine k_l ?_;refine g_l rfl ?_)|(refine k_i ?_;refine g_i rfl rfl ?_)|(refine k_ls ?_;refine g_ls rfl ?_)|(refine k_st ?_;refine g_sw rfl rfl rfl rfl (Nat.le_of_ble_eq_true rfl) ?_)|(refine k_al ?_;refine a_al ?_)|(refine k_bx ?_;refine a_bx rfl rfl ?_)|(refine k_q ?_;refine a_q rfl (fun m hm=>qt_e (to_q (x:=x) (sep_has hm pmt) (fun e=>absurd e hk)) (by rw[et])) ?_)|(refine k_c ?_;refine a_cq rfl (fun m hm=>codeE_q) ?_))
    |refine a_n ?_
    |(refine k_V ?_;first|refine v_seq ?_|refine v_reg ?_|refine v_dreg ?_|refine v_bs ?_|refine v_ret ?_|refine v_skip ?_|refine v_ct rfl ?_)
    |refine s_r ?_
    |refine sk_zero ?_
    |refine sk_succ ?_
    |refine wk_nil ?_
    |refine wk_cons ?_)
   all_goals exact fa_r (fun _ _=>rfl) (Pm.ent pmt) ⟨x,rfl,rfl,rfl⟩
  ·repeat' (first
    |(refine k_L ?_;first|refine a_p rfl ?_|(refine k_l ?_;refine g_l rfl ?_)|(refine k_i ?_;refine g_i rfl rfl ?_)|(refine k_ls ?_;refine g_ls rfl ?_)|(refine k_st ?_;refine g_sw rfl rfl rfl rfl (Nat.le_of_ble_eq_true rfl) ?_)|(refine k_al ?_;refine a_al ?_)|(refine k_bx ?_;refine a_bx rfl rfl ?_)|(refine k_q ?_;refine a_q rfl (fun m hm=>qt_e (to_q (x:=x) (sep_has hm pmt) (fun e=>absurd e hk)) (by rw[et])) ?_)|(refine k_c ?_;refine a_cq rfl (fun m hm=>codeE_q) ?_))
    |refine a_n ?_
    |(refine k_V ?_;first|refine v_seq ?_|refine v_reg ?_|refine v_dreg ?_|refine v_bs ?_|refine v_ret ?_|refine v_ct rfl ?_|refine v_cf rfl ?_)
    |refine s_r ?_
    |refine sk_zero ?_
    |refine sk_succ ?_
    |refine wk_nil ?_
    |refine wk_cons ?_)
   all_goals exact fa_r (fun _ _=>rfl) (Pm.ent pmt) ⟨x,rfl,rfl,rfl⟩
end Go.Proofs.YtpleoapljeffiaaDoor.E
