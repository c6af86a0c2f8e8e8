/- A part of the proof. Conditions: none. -/
import Derived.Test.YtpleoapljeffiaaGreatDoorKE12
set_option linter.unusedVariables false
set_option linter.unusedSimpArgs false
namespace Go.Proofs.YtpleoapljeffiaaGreatDoor.E
open Go
open Classical
theorem reg_sound{K:Heap}(h:Sound K){r:Nat}{w:Word}(hf:Formed K w)(hl:LeadsWell K w False):Sound {K with regs:=K.regs.set r w}:=
 ⟨{h.r1 with regs:=by simp[h.r1.regs]},⟨h.r2.each,h.r2.born,h.r2.to⟩,h.r3,⟨fun v hv=>by
   rcases List.mem_or_eq_of_mem_set hv with hv|rfl
   ·exact h.r4.regs v hv
   ·exact⟨hf,hl⟩,h.r4.roots,h.r4.pairs⟩,⟨h.r5.mark,h.r5.else_⟩,h.r6,h.r7,h.r8⟩
theorem pace_sound{K:Heap}(h:Sound K){p s:Int}(hp:0≤p∧p≤64)(hs:0≤s∧s≤4000):Sound {K with per:=p,start:=s}:=
 ⟨{h.r1 with per:=hp,start:=hs},⟨h.r2.each,h.r2.born,h.r2.to⟩,h.r3,⟨h.r4.regs,h.r4.roots,h.r4.pairs⟩,⟨h.r5.mark,h.r5.else_⟩,h.r6,h.r7,h.r8⟩
theorem forced_sound{K:Heap}(h:Sound K){f:Int}(hf:0≤f∧f≤1000000000):Sound {K with forced:=f}:=
 ⟨{h.r1 with forced:=hf},⟨h.r2.each,h.r2.born,h.r2.to⟩,h.r3,⟨h.r4.regs,h.r4.roots,h.r4.pairs⟩,⟨h.r5.mark,h.r5.else_⟩,h.r6,h.r7,h.r8⟩
theorem lead_well{K:Heap}(h:Sound K){w:Word}{m:Prop}(hf:Formed K w)(hl:LeadsWell K w m):Formed K (K.lead w)∧LeadsWell K (K.lead w) False:=by
 by_cases hk:w.kind=2∧(K.getC w.at_).state=2
 ·have hat:=hf.at hk.1
  have hc:=getL_some (cs:=K.cells) hat.1 hat.2
  rw[←getC_L]at hc
  unfold Heap.lead
  rw[if_pos hk]
  rcases h.r2.each _ _ hc with x|x|x
  ·have:=x.1;omega
  ·obtain⟨a1,a2,a3,a4,a5,a6⟩:=x
   refine⟨.inr (.inr ⟨rfl,rfl,a4.1,?_⟩),fun _=>.inl ⟨a5,fun hd=>?_⟩⟩
   ·have:=a4.2
    show(K.getC w.at_).to<(K.cells.length:Int)
    omega
   ·have:=hd.1;omega
  ·have:=x.1;omega
 ·unfold Heap.lead
  rw[if_neg hk]
  refine⟨hf,fun e=>?_⟩
  rcases hl e with x|x
  ·exact .inl x
  ·exact absurd ⟨e,x.1⟩ hk
theorem nodup_sub:∀(l u:List Int),l.Nodup→(∀x,x∈l→x∈u)→l.length≤u.length
 |[],u,_,_=>by simp
 |a::r,u,hn,h=>by
  have ha:=h a (by simp)
  obtain⟨h1,h2⟩:=List.nodup_cons.1 hn
  have:=nodup_sub r (u.erase a) h2 (fun x hx=>(List.mem_erase_of_ne (fun e=>h1 (by rw[←e];exact hx))).2 (h x (by simp[hx])))
  rw[List.length_erase_of_mem ha]at this
  have:0<u.length:=List.length_pos_of_mem ha
  simp only[List.length_cons];omega
theorem used_le:∀cs:List Cell,((cs.filter fun c=>c.state==1).length:Int)≤unitsN cs
 |[]=>by simp[unitsN]
 |c::r=>by
  have ih:=used_le r
  have e:unitsN (c::r)=c.units+unitsN r:=by simp[unitsN]
  rw[e]
  unfold Cell.units
  by_cases h:c.state=1
  ·rw[if_pos h,List.filter_cons_of_pos (by simp[h]),List.length_cons];omega
  ·rw[if_neg h,List.filter_cons_of_neg (by simp[h])];omega
theorem as_range(cs:List Cell):cs=(List.range cs.length).map fun i:Nat=>getL cs (i:Int):=by
 refine List.ext_getElem (by simp) (fun i h1 h2=>?_)
 rw[List.getElem_map,List.getElem_range]
 exact(getL_at (List.getElem?_eq_getElem h1) (by omega)).symm
theorem cells_two{K:Heap}(h2:R2 K)(hn:∀(i:Nat) c,K.cells[i]?=some c→c.state≠0):(K.cells.length:Int)≤2*unitsN K.cells:=by
 have hu:=used_le K.cells
 have hsp:K.cells.length=(K.cells.filter fun c=>c.state==1).length+(K.cells.filter fun c=> !(c.state==1)).length:=by
  rw[←List.countP_eq_length_filter,←List.countP_eq_length_filter]
  have:=List.length_eq_countP_add_countP (fun c:Cell=>c.state==1) (l:=K.cells)
  refine this.trans (congrArg (fun f=>List.countP (fun c:Cell=>c.state==1) K.cells+List.countP f K.cells) (funext fun a=>?_))
  cases a.state==1<;>simp
 have hp:K.cells.Pairwise fun c d=>c.state=2→d.state=2→c.to≠d.to:=List.pairwise_iff_getElem.2 fun i j hi hj hij a b=>h2.to i j _ _ (List.getElem?_eq_getElem hi) (List.getElem?_eq_getElem hj) hij a b
 have hmv:∀c,c∈(K.cells.filter fun c=> !(c.state==1))→c.state=2∧0≤c.to∧c.to<K.cells.length∧(K.getC c.to).state=1:=fun c hc=>by
  obtain⟨h1,h3⟩:=List.mem_filter.1 hc
  obtain⟨i,hi⟩:=List.getElem?_of_mem h1
  rcases h2.each i c hi with x|x|x
  ·exact absurd x.1 (hn i c hi)
  ·obtain⟨a1,a2,a3,a4,a5,a6⟩:=x
   have:=(List.getElem?_eq_some_iff.1 hi).1
   exact⟨a1,a4.1,by omega,a5⟩
  ·have:=x.1;simp[this]at h3
 have hnd:((K.cells.filter fun c=> !(c.state==1)).map (·.to)).Nodup:=by
  refine List.pairwise_map.2 (List.Pairwise.imp_of_mem ?_ (hp.filter _))
  intro a b ha hb hab
  exact hab (hmv a ha).1 (hmv b hb).1
 have hle:=nodup_sub _ (((List.range K.cells.length).filter fun i:Nat=>(getL K.cells (i:Int)).state==1).map Int.ofNat) hnd (fun x hx=>by
  obtain⟨c,hc,rfl⟩:=List.mem_map.1 hx
  obtain⟨a1,a2,a3,a4⟩:=hmv c hc
  refine List.mem_map.2 ⟨c.to.toNat,List.mem_filter.2 ⟨List.mem_range.2 (by omega),?_⟩,by simp;omega⟩
  have:(getL K.cells (c.to.toNat:Int))=K.getC c.to:=by rw[getC_L];congr 1;omega
  rw[this];simp[a4])
 have he:((List.range K.cells.length).filter fun i:Nat=>(getL K.cells (i:Int)).state==1).length=(K.cells.filter fun c=>c.state==1).length:=by
  have:(K.cells.filter fun c=>c.state==1)=(((List.range K.cells.length).map fun i:Nat=>getL K.cells (i:Int)).filter fun c=>c.state==1):=by rw[←as_range]
  rw[this,List.filter_map,List.length_map];rfl
 rw[List.length_map,List.length_map,he]at hle
 omega
def Pair.no:Pair:=⟨⟨0,0,0⟩,⟨0,0,0⟩⟩
def Cell.fresh(kind born color:Int)(n:Nat):Cell:=⟨1,kind,0,0,born,color,0,List.replicate n Pair.no⟩
noncomputable def newCol(K:Heap)(at_:Int):Int:=if Marking K∨(K.phase=3∧K.hand≤at_)then 2 else 0
def addC(cs:List Cell)(at_:Nat)(c:Cell):List Cell:=if at_=cs.length then cs++[c]else cs.set at_ c
theorem addC_gt{cs:List Cell}{at_:Nat}{c d:Cell}(ha:at_≤cs.length){j:Nat}(h:(addC cs at_ c)[j]?=some d):(j=at_∧d=c)∨(j≠at_∧cs[j]?=some d):=by
 unfold addC at h
 split at h
 ·rename_i e
  subst e
  by_cases hj:j<cs.length
  ·rw[List.getElem?_append_left hj]at h;exact .inr ⟨by omega,h⟩
  ·rw[List.getElem?_append_right (by omega)]at h
   by_cases h0:j-cs.length=0
   ·rw[h0]at h
    simp only[List.getElem?_cons_zero,Option.some.injEq]at h
    exact .inl ⟨by omega,h.symm⟩
   ·rw[show j-cs.length=(j-cs.length-1)+1 by omega]at h
    simp at h
 ·rcases set_gt h with⟨h1,h2,_⟩|h1
  ·exact .inl ⟨h1,h2⟩
  ·exact .inr h1
theorem addC_L{cs:List Cell}{at_:Nat}{c:Cell}(ha:at_≤cs.length)(j:Int):getL (addC cs at_ c) j=if j.toNat=at_ then c else getL cs j:=by
 unfold addC
 split
 ·rename_i e
  subst e
  unfold getL
  rw[List.getD_eq_getElem?_getD,List.getD_eq_getElem?_getD]
  by_cases hj:j.toNat<cs.length
  ·rw[List.getElem?_append_left hj,if_neg (by omega)]
  ·rw[List.getElem?_append_right (by omega)]
   by_cases h0:j.toNat=cs.length
   ·rw[if_pos h0,h0];simp
   ·rw[if_neg h0,List.getElem?_eq_none (by simp;omega),List.getElem?_eq_none (by omega)]
 ·exact getL_set (by omega)
theorem addC_len{cs:List Cell}{at_:Nat}{c:Cell}:(addC cs at_ c).length=cs.length+(if at_=cs.length then 1 else 0):=by
 unfold addC
 split<;>simp
theorem addC_units{cs:List Cell}{at_:Nat}{c:Cell}(ha:at_<cs.length→(getL cs at_).units=0)(hl:at_≤cs.length):unitsN (addC cs at_ c)=unitsN cs+c.units:=by
 unfold addC
 split
 ·simp[unitsN]
 ·have hc:=getL_some (cs:=cs) (j:=(at_:Int)) (by omega) (by omega)
  rw[units_set (i:=at_) (c:=getL cs at_) (by simpa using hc)]
  have:=ha (by omega)
  omega
noncomputable def Heap.newH(K:Heap)(r:Nat)(kind:Int)(n:Nat):Heap:=
 {K with born:=K.born+1,cells:=addC K.cells (frG K K.cells.length).toNat (Cell.fresh kind (K.born+1) (newCol K (frG K K.cells.length)) n),used:=K.used+1+n,regs:=K.regs.set r ⟨2,0,frG K K.cells.length⟩}
theorem new_sound{K:Heap}{r n:Nat}{kind:Int}(h:Sound K)(hb:K.born<1000000000)(hk:0≤kind∧kind≤255)(hn:n≤200)(hr:K.used+1+n≤K.room):Sound (K.newH r kind n):=by
 obtain⟨f0,f1,f2,f3⟩:=frG_ok K K.cells.length
 generalize eK:K.newH r kind n=K'
 unfold Heap.newH at eK
 generalize frG K K.cells.length=at_ at f0 f1 f2 f3 eK
 have ha:at_.toNat≤K.cells.length:=by omega
 generalize ed:Cell.fresh kind (K.born+1) (newCol K at_) n=d at eK
 have hd:d.state=1∧d.kind=kind∧d.weak=0∧d.last=0∧d.born=K.born+1∧d.color=newCol K at_∧d.to=0∧d.pairs=List.replicate n Pair.no:=by rw[←ed];exact⟨rfl,rfl,rfl,rfl,rfl,rfl,rfl,rfl⟩
 obtain⟨d1,d2,d3,d4,d5,d6,d7,d8⟩:=hd
 clear ed
 have hcs:K'.cells=addC K.cells at_.toNat d:=by rw[←eK]
 have hsub:K'.sub=K.sub:=by rw[←eK]
 have hus:K'.used=K.used+1+n:=by rw[←eK]
 have hph:K'.phase=K.phase:=by rw[←eK]
 have hhd:K'.hand=K.hand:=by rw[←eK]
 have hgr:K'.gray=K.gray:=by rw[←eK]
 have hrg:K'.regs=K.regs.set r ⟨2,0,at_⟩:=by rw[←eK]
 have hbn:K'.born=K.born+1:=by rw[←eK]
 have hrm:K'.room=K.room:=by rw[←eK]
 have gC:∀j:Int,K'.getC j=if j.toNat=at_.toNat then d else K.getC j:=fun j=>by rw[getC_L,getC_L,hcs];exact addC_L ha j
 have hlen:K'.cells.length=K.cells.length+(if at_.toNat=K.cells.length then 1 else 0):=by rw[hcs];exact addC_len
 have hll:K.cells.length≤K'.cells.length∧at_.toNat<K'.cells.length:=by rw[hlen];split<;>omega
 have old:∀j:Int,j.toNat=at_.toNat→(K.getC j).state=0∧(K.getC j).color=0:=fun j e=>by
  by_cases hj:at_<K.cells.length
  ·have hc:=getL_some (cs:=K.cells) (j:=at_) f0 hj
   have e1:K.getC j=getL K.cells at_:=by rw[getC_L];unfold getL;rw[e]
   have e2:(getL K.cells at_).state=0:=by rw[←getC_L];exact(f2 hj).2
   rw[e1]
   exact⟨e2,(h.r2.bare hc (by omega)).2.2.2.2.1⟩
  ·have:K.getC j=Cell.zero:=by
    rw[getC_L];unfold getL;rw[List.getD_eq_getElem?_getD,List.getElem?_eq_none (by omega)];rfl
   rw[this];exact⟨rfl,rfl⟩
 have hor:∀(j:Nat) e,K'.cells[j]?=some e→(j=at_.toNat∧e=d)∨(j≠at_.toNat∧K.cells[j]?=some e):=fun j e he=>by rw[hcs]at he;exact addC_gt ha he
 have hdm:∀j,Doomed K' j→Doomed K j:=fun j hd=>by
  unfold Doomed at hd⊢
  rw[hph,hhd,gC]at hd
  split at hd
  ·rename_i e
   exfalso
   have:=hd.2.2.1
   rw[d6]at this
   unfold newCol at this
   have h3:=h.r1.hand
   rw[if_pos (.inr ⟨hd.1,by have:=hd.2.2.2;omega⟩)]at this
   omega
  ·exact hd
 have used':∀j:Int,(K.getC j).state=1∨(K.getC j).state=2→(K'.getC j)=K.getC j:=fun j hj=>by
  rw[gC]
  split
  ·rename_i e;have:=(old j e).1;omega
  ·rfl
 have hform:∀w,Formed K w→Formed K' w:=fun w hw=>by
  unfold Formed at hw⊢
  rcases hw with x|x|x
  ·exact .inl x
  ·exact .inr (.inl x)
  ·exact .inr (.inr ⟨x.1,x.2.1,x.2.2.1,by have:=hll.1;omega⟩)
 have hlead:∀(w:Word) (m:Prop),LeadsWell K w m→LeadsWell K' w m:=fun w m hl hk=>by
  rcases hl hk with x|x
  ·rw[used' _ (.inl x.1)];exact .inl ⟨x.1,fun e=>x.2 (hdm _ e)⟩
  ·rw[used' _ (.inr x.1)];exact .inr x
 have hwh:∀w,Marking K→White K' w→White K w:=fun w hm hw=>by
  refine⟨hw.1,?_⟩
  have:=hw.2
  rw[gC]at this
  split at this
  ·rw[d6]at this
   unfold newCol at this
   rw[if_pos (.inl hm)]at this
   omega
  ·exact this
 have hno:∀(k:Nat) p,d.pairs[k]?=some p→p=Pair.no:=fun k p hp=>by
  rw[d8,List.getElem?_replicate]at hp
  split at hp
  ·cases hp;rfl
  ·cases hp
 have hnof:Formed K' Pair.no.key∧Formed K' Pair.no.val:=⟨.inl ⟨rfl,rfl,rfl⟩,.inl ⟨rfl,rfl,rfl⟩⟩
 have hnol:∀m:Prop,LeadsWell K' Pair.no.key m∧LeadsWell K' Pair.no.val m:=fun m=>⟨fun hk=>by simp[Pair.no]at hk,fun hk=>by simp[Pair.no]at hk⟩
 have hplen:(d.pairs.length:Int)=n:=by rw[d8];simp
 have hun:unitsN K'.cells=unitsN K.cells+(1+n):=by
  rw[hcs,addC_units (fun hlt=>?_) ha]
  ·have:d.units=1+n:=by unfold Cell.units;rw[if_pos d1,hplen]
   omega
  ·have:=(old at_ rfl).1
   rw[getC_L]at this
   have e:((at_.toNat:Nat):Int)=at_:=by omega
   rw[e];unfold Cell.units;rw[if_neg (by omega)]
 have hcl:(K'.cells.length:Int)≤2*K.room:=by
  rw[hlen]
  split
  ·rename_i e
   have:=cells_two h.r2 (fun i c hc hs=>by
    have hi:=(List.getElem?_eq_some_iff.1 hc).1
    have:=f3 i hi (by omega)
    rw[getC_nat hc]at this
    exact this hs)
   have h3:=h.r3.1
   omega
  ·have:=h.r1.cells;omega
 refine⟨?_,⟨fun j e he=>?_,fun j k e f he hf hjk h1 h2=>?_,fun j k e f he hf hjk h1 h2=>?_⟩,?_,⟨fun w hw=>?_,fun j e he hdo hr=>?_,fun j e he k p hp=>?_⟩,⟨fun hm=>?_,fun hm=>?_⟩,?_,fun hm j e he=>?_,fun hp j e he hj=>?_⟩
 ·have h1:=h.r1
  refine⟨by rw[hrm];exact h1.room,by rw[hrg];simp[h1.regs],by rw[hrm];exact hcl,by rw[hgr];have:=h1.gray;omega,by rw[hbn];have:=h1.born;omega,by rw[←eK];exact h1.rounds,by rw[←eK];exact h1.forced,by rw[←eK];exact h1.per,by rw[←eK];exact h1.start,by rw[hph];exact h1.phase,by rw[hhd];have:=h1.hand;omega,by rw[hsub];exact h1.sub⟩
 ·rcases hor j e he with⟨rfl,rfl⟩|⟨hj,he0⟩
  ·refine .inr (.inr ⟨d1,by rw[d2];exact hk,by rw[d3];omega,by rw[d4];omega,by rw[d5,hbn];have:=h.r1.born;omega,?_,d7,by omega⟩)
   rw[d6];unfold newCol;split<;>omega
  ·rcases h.r2.each j e he0 with x|x|x
   ·exact .inl x
   ·obtain⟨a1,a2,a3,a4,a5,a6⟩:=x
    refine .inr (.inl ⟨a1,a2,by rw[hph];exact a3,a4,by rw[used' _ (.inl a5)];exact a5,fun hp k k0 k1=>?_⟩)
    have:=a6 (by rw[←hph];exact hp) k k0 k1
    rw[gC]
    split
    ·rw[d1];omega
    ·exact this
   ·exact .inr (.inr ⟨x.1,x.2.1,x.2.2.1,x.2.2.2.1,by rw[hbn];have:=x.2.2.2.2.1;omega,x.2.2.2.2.2⟩)
 ·have hub:∀(i:Nat) c,K.cells[i]?=some c→c.state=1→c.born≤K.born:=fun i c hc hs=>(h.r2.used hc hs).2.2.2.2.1.2
  rcases hor j e he with⟨e1,rfl⟩|⟨hj,he0⟩
  ·rcases hor k f hf with⟨e2,rfl⟩|⟨hk',hf0⟩
   ·omega
   ·have:=hub k f hf0 h2;omega
  ·rcases hor k f hf with⟨e2,rfl⟩|⟨hk',hf0⟩
   ·have:=hub j e he0 h1;omega
   ·exact h.r2.born j k e f he0 hf0 hjk h1 h2
 ·rcases hor j e he with⟨e1,rfl⟩|⟨hj,he0⟩
  ·omega
  ·rcases hor k f hf with⟨e2,rfl⟩|⟨hk',hf0⟩
   ·omega
   ·exact h.r2.to j k e f he0 hf0 hjk h1 h2
 ·unfold R3
  rw[hun,hus,hrm]
  have:=h.r3.1
  exact⟨by omega,hr⟩
 ·rw[hrg]at hw
  rcases List.mem_or_eq_of_mem_set hw with hw|rfl
  ·obtain⟨a,b⟩:=h.r4.regs w hw
   exact⟨hform w a,hlead w _ b⟩
  ·refine⟨.inr (.inr ⟨rfl,rfl,f0,by have:=hll.2;show at_<(K'.cells.length:Int);omega⟩),fun _=>.inl ⟨?_,fun hdo=>?_⟩⟩
   ·show(K'.getC at_).state=1
    rw[gC,if_pos rfl];exact d1
   ·have:=(hdm _ hdo).2.1
    have h0:=(old at_ rfl).1
    have:(K.getC at_).state=1:=this
    omega
 ·rcases hor j e he with⟨rfl,rfl⟩|⟨hj,he0⟩
  ·have:=hr.2;omega
  ·exact h.r4.roots j e he0 (hdm _ hdo) hr
 ·rcases hor j e he with⟨rfl,rfl⟩|⟨hj,he0⟩
  ·rw[hno k p hp]
   exact⟨hnof.1,hnof.2,fun _=>hnol _⟩
  ·obtain⟨a,b,g⟩:=h.r4.pairs j e he0 k p hp
   refine⟨hform _ a,hform _ b,fun hn=>?_⟩
   obtain⟨g1,g2⟩:=g (fun hd=>hn (by
    unfold Doomed at hd⊢
    rw[hph,hhd,used' _ (.inl hd.2.1)];exact hd))
   have hmm:Mended K' j k=Mended K j k:=by unfold Mended;rw[hph,hhd,hsub]
   rw[hmm]
   exact⟨hlead _ _ g1,hlead _ _ g2⟩
 ·have hm':Marking K:=by unfold Marking at hm⊢;rw[hph]at hm;exact hm
  obtain⟨a,b,c'⟩:=h.r5.mark hm'
  rw[hgr]
  refine⟨a,fun g hg=>?_,fun j e he hcl=>?_⟩
  ·obtain⟨b1,b2,b3,b4⟩:=b g hg
   rw[used' _ (.inl b3)]
   exact⟨b1,by have:=hll.1;omega,b3,b4⟩
  ·rcases hor j e he with⟨rfl,rfl⟩|⟨hj,he0⟩
   ·rw[d6]at hcl
    unfold newCol at hcl
    rw[if_pos (.inl hm')]at hcl
    omega
   ·exact c' j e he0 hcl
 ·have hm':¬Marking K:=by unfold Marking at hm⊢;rw[hph]at hm;exact hm
  obtain⟨a,b⟩:=h.r5.else_ hm'
  rw[hgr,hph,hhd]
  refine⟨a,fun j e he=>?_⟩
  rcases hor j e he with⟨rfl,rfl⟩|⟨hj,he0⟩
  ·rw[d6]
   unfold newCol
   split
   ·rename_i hx
    refine⟨by omega,fun _=>?_⟩
    rcases hx with hx|hx
    ·exact absurd hx hm'
    ·exact⟨hx.1,by omega⟩
   ·exact⟨by omega,fun hx=>by omega⟩
  ·exact b j e he0
 ·have h6:=h.r6
  have hsm:=h.r1.sub
  by_cases p0:K.phase=0∨K.phase=4
  ·rw[r6_0 p0]at h6
   rw[r6_0 (by rw[hph];exact p0),hhd,hsub];exact h6
  by_cases p2:K.phase=2
  ·rw[r6_2 p2]at h6
   rw[r6_2 (by rw[hph];exact p2),hhd,hgr,hsub]
   refine⟨h6.1,?_⟩
   cases hg:K.gray with
   |nil=>rw[hg]at h6;exact h6.2
   |cons a r=>
    rw[hg]at h6;simp only at h6⊢
    obtain⟨_,g2,_⟩:=h.r5.mark (.inr p2)
    have hga:=g2 a (by rw[hg];simp)
    rw[used' _ (.inl hga.2.2.1)];exact h6.2
  by_cases p5:K.phase=5
  ·rw[r6_5 p5]at h6
   rw[r6_5 (by rw[hph];exact p5),hhd,hsub]
   by_cases e:K.hand<K.cells.length∧(K.getC K.hand).state=1
   ·rw[if_pos e]at h6
    rw[used' _ (.inl e.2),if_pos ⟨by have:=hll.1;omega,e.2⟩];exact h6
   ·rw[if_neg e]at h6
    rw[h6]
    split<;>omega
  ·rw[r6_e (by omega)]at h6
   rw[r6_e (by rw[hph];omega),hsub];exact h6
 ·have hm':Marking K:=by unfold Marking at hm⊢;rw[hph]at hm;exact hm
  rcases hor j e he with⟨rfl,rfl⟩|⟨hj,he0⟩
  ·refine⟨fun hr hcl=>by have:=hr.2;omega,fun k p hp _=>?_⟩
   rw[hno k p hp]
   exact⟨fun hw=>by have:=hw.1;simp[Pair.no]at this,fun hw=>by have:=hw.1;simp[Pair.no]at this⟩
  ·obtain⟨a,b⟩:=h.r7 hm' j e he0
   refine⟨fun hr hcl=>by rw[hph,hhd];exact a hr hcl,fun k p hp hsc=>?_⟩
   obtain⟨b1,b2⟩:=b k p hp (by
    unfold scanned at hsc⊢
    rw[hph,hgr,hsub]at hsc;exact hsc)
   exact⟨fun hw=>b1 (hwh _ hm' hw),fun hw=>b2 (hwh _ hm' hw)⟩
 ·rcases hor j e he with⟨rfl,rfl⟩|⟨hj',he0⟩
  ·omega
  ·exact h.r8 (by rw[←hph];exact hp) j e he0 (by rw[←hhd];exact hj)
def Heap.aw(H:Heap)(w:Word):Word:=if w.kind=2 then⟨2,0,(H.getC (H.lead w).at_).born⟩else w
def Heap.ap(H:Heap)(p:Pair):Pair:=⟨H.aw p.key,H.aw p.val⟩
structure Nd where
 kind:Int
 weak:Int
 last:Int
 pairs:List Pair
def Node(H:Heap)(b:Int)(n:Nd):Prop:=∃(i:Nat) (c:Cell),H.cells[i]?=some c∧c.state=1∧¬Doomed H i∧c.born=b∧n=⟨c.kind,c.weak,c.last,c.pairs.map H.ap⟩
structure Iso (H K:Heap):Prop where
 regs:K.regs.map K.aw=H.regs.map H.aw
 node:∀b n,Node K b n→Node H b n
 room:K.room=H.room
 born:K.born=H.born
 per:K.per=H.per
 start:K.start=H.start
 forced:K.forced=H.forced
theorem Iso.refl(H:Heap):Iso H H:=⟨rfl,fun _ _ h=>h,rfl,rfl,rfl,rfl,rfl⟩
theorem Iso.trans{H K L:Heap}(h:Iso H K)(k:Iso K L):Iso H L:=
 ⟨k.regs.trans h.regs,fun b n x=>h.node b n (k.node b n x),k.room.trans h.room,k.born.trans h.born,k.per.trans h.per,k.start.trans h.start,k.forced.trans h.forced⟩
theorem node_one{H:Heap}(h:R2 H){b:Int}{n m:Nd}(hn:Node H b n)(hm:Node H b m):n=m:=by
 obtain⟨i,c,h1,h2,_,h3,rfl⟩:=hn
 obtain⟨j,d,k1,k2,_,k3,rfl⟩:=hm
 have:i=j:=by
  rcases Nat.lt_trichotomy i j with x|x|x
  ·exact absurd (h3.trans k3.symm) (h.born i j c d h1 k1 x h2 k2)
  ·exact x
  ·exact absurd (k3.trans h3.symm) (h.born j i d c k1 h1 x k2 h2)
 subst this
 rw[h1]at k1
 cases k1;rfl
theorem aw_used{H:Heap}{w:Word}(h:w.kind=2→(H.getC w.at_).state=1):H.aw w=if w.kind=2 then⟨2,0,(H.getC w.at_).born⟩else w:=by
 unfold Heap.aw
 split
 ·rename_i hk
  unfold Heap.lead
  rw[if_neg (fun e=>by have:=h hk;omega)]
 ·rfl
structure Hue (H K:Heap):Prop where
 len:K.cells.length=H.cells.length
 cell:∀j:Int,K.getC j=(H.getC j).col (K.getC j).color
 regs:K.regs=H.regs
 room:K.room=H.room
 born:K.born=H.born
 per:K.per=H.per
 start:K.start=H.start
 forced:K.forced=H.forced
theorem Hue.trans{H K L:Heap}(h:Hue H K)(k:Hue K L):Hue H L:=
 ⟨k.len.trans h.len,fun j=>by rw[k.cell j,h.cell j];rfl,k.regs.trans h.regs,k.room.trans h.room,k.born.trans h.born,k.per.trans h.per,k.start.trans h.start,k.forced.trans h.forced⟩
theorem hue_same{H K:Heap}(e:K.cells=H.cells)(e1:K.regs=H.regs)(e2:K.room=H.room)(e3:K.born=H.born)(e4:K.per=H.per)(e5:K.start=H.start)(e6:K.forced=H.forced):Hue H K:=
 ⟨by rw[e],fun j=>by rw[getC_L,getC_L,e];rfl,e1,e2,e3,e4,e5,e6⟩
theorem hue_set{H K:Heap}{i:Nat}{k:Int}(hi:i<H.cells.length)(e:K.cells=H.cells.set i ((H.getC i).col k))(e1:K.regs=H.regs)(e2:K.room=H.room)(e3:K.born=H.born)(e4:K.per=H.per)(e5:K.start=H.start)(e6:K.forced=H.forced):Hue H K:=
 ⟨by rw[e];simp,fun j=>by
   rw[getC_L,e,getL_set hi]
   split
   ·rename_i ej
    have:H.getC j=H.getC i:=by rw[getC_L,getC_L];unfold getL;rw[ej];rfl
    rw[this];rfl
   ·rfl,e1,e2,e3,e4,e5,e6⟩
theorem Hue.aw{H K:Heap}(h:Hue H K):K.aw=H.aw:=by
 funext w
 have hc:∀j:Int,(K.getC j).state=(H.getC j).state∧(K.getC j).to=(H.getC j).to∧(K.getC j).born=(H.getC j).born:=fun j=>by rw[h.cell j];exact⟨rfl,rfl,rfl⟩
 have hl:K.lead w=H.lead w:=by unfold Heap.lead;rw[(hc _).1,(hc _).2.1]
 unfold Heap.aw
 rw[hl,(hc _).2.2]
theorem at_get{H:Heap}{i:Nat}{c:Cell}(h:H.cells[i]?=some c):H.getC i=c∧i<H.cells.length:=⟨getC_nat h,(List.getElem?_eq_some_iff.1 h).1⟩
theorem get_at{H:Heap}{i:Nat}(h:i<H.cells.length):H.cells[i]?=some (H.getC i):=by
 have:=getL_some (cs:=H.cells) (j:=(i:Int)) (by omega) (by omega)
 rw[show((i:Int)).toNat=i by omega,←getC_L]at this
 exact this
theorem Hue.iso{H K:Heap}(h:Hue H K)(hd:∀j:Int,Doomed H j→Doomed K j):Iso H K:=by
 refine⟨by rw[h.aw,h.regs],fun b n hn=>?_,h.room,h.born,h.per,h.start,h.forced⟩
 obtain⟨i,c,h1,h2,h3,h4,h5⟩:=hn
 obtain⟨e1,e2⟩:=at_get h1
 have e3:=h.cell i
 rw[e1]at e3
 refine⟨i,H.getC i,get_at (by rw[←h.len];exact e2),?_,fun x=>h3 (hd _ x),?_,?_⟩
 ·rw[e3]at h2;exact h2
 ·rw[e3]at h4;exact h4
 ·rw[h5,e3]
  have:K.ap=H.ap:=by funext p;unfold Heap.ap;rw[h.aw]
  rw[this];rfl
theorem Hue.refl(H:Heap):Hue H H:=hue_same rfl rfl rfl rfl rfl rfl rfl
theorem hue_shadeH{H:Heap}{i:Nat}(hi:i<H.cells.length):Hue H (H.shadeH i):=by
 unfold Heap.shadeH
 split
 ·exact hue_set hi rfl rfl rfl rfl rfl rfl rfl
 ·exact Hue.refl H
theorem hue_shadeW{H:Heap}{w:Word}(hf:Formed H w):Hue H (H.shadeW w):=by
 unfold Heap.shadeW
 split
 ·rename_i hk
  have:=hf.at hk
  exact hue_shadeH (by omega)
 ·exact Hue.refl H
theorem hue_shadeL:∀(ws:List Word) (H:Heap),(∀w,w∈ws→Formed H w)→Hue H (H.shadeL ws)
 |[],H,_=>Hue.refl H
 |w::r,H,h=>by
  have a:=hue_shadeW (h w (by simp))
  exact a.trans (hue_shadeL r (H.shadeW w) (fun v hv=>formed_len a.len (h v (by simp[hv]))))
theorem iso_direct{H K:Heap}(hr:K.regs=H.regs)(hg:∀w,w∈H.regs→w.kind=2→(H.getC w.at_).state=1∧K.getC w.at_=H.getC w.at_)
 (hn:∀(i:Nat) c,K.cells[i]?=some c→c.state=1→¬Doomed K i→H.cells[i]?=some (c.col (H.getC i).color)∧¬Doomed H i∧∀p,p∈c.pairs→∀w,(w=p.key∨w=p.val)→w.kind=2→(H.getC w.at_).state=1∧(K.getC w.at_).state=1∧(K.getC w.at_).born=(H.getC w.at_).born)
 (e2:K.room=H.room) (e3:K.born=H.born) (e4:K.per=H.per) (e5:K.start=H.start) (e6:K.forced=H.forced):Iso H K:=by
 refine⟨?_,fun b n hx=>?_,e2,e3,e4,e5,e6⟩
 ·rw[hr]
  refine List.map_congr_left fun w hw=>?_
  rw[aw_used (fun hk=>(hg w hw hk).1),aw_used (fun hk=>by rw[(hg w hw hk).2];exact(hg w hw hk).1)]
  split
  ·rename_i hk;rw[(hg w hw hk).2]
  ·rfl
 ·obtain⟨i,c,h1,h2,h3,h4,h5⟩:=hx
  obtain⟨a,b',g⟩:=hn i c h1 h2 h3
  refine⟨i,_,a,h2,b',h4,?_⟩
  rw[h5]
  show(⟨c.kind,c.weak,c.last,_⟩:Nd)=⟨c.kind,c.weak,c.last,c.pairs.map H.ap⟩
  congr 1
  refine List.map_congr_left fun p hp=>?_
  have key:∀w,(w=p.key∨w=p.val)→K.aw w=H.aw w:=fun w hw=>by
   rw[aw_used (fun hk=>(g p hp w hw hk).1),aw_used (fun hk=>(g p hp w hw hk).2.1)]
   split
   ·rename_i hk;rw[(g p hp w hw hk).2.2]
   ·rfl
  unfold Heap.ap
  rw[key _ (.inl rfl),key _ (.inr rfl)]
theorem lead_id{H:Heap}{w:Word}(h:w.kind=2→(H.getC w.at_).state=1):H.lead w=w:=by
 unfold Heap.lead
 rw[if_neg (fun e=>by have:=h e.1;omega)]
theorem lead_lead{H:Heap}{w:Word}(h:w.kind=2→(H.getC (H.lead w).at_).state=1):H.aw (H.lead w)=H.aw w:=by
 have e:H.lead (H.lead w)=H.lead w:=lead_id (fun hk=>h (lead_kind.1 hk))
 unfold Heap.aw
 rw[e]
 by_cases hk:w.kind=2
 ·rw[if_pos hk,if_pos (lead_kind.2 hk)]
 ·rw[if_neg hk,if_neg (fun x=>hk (lead_kind.1 x)),lead_id (fun x=>absurd x hk)]
theorem enter_iso{H:Heap}{p:Int}(hd:∀j:Int,¬Doomed H j):Iso H (H.enterH p):=(hue_same rfl rfl rfl rfl rfl rfl rfl:Hue H (H.enterH p)).iso fun j h=>absurd h (hd j)
theorem roots_iso{H:Heap}(h:Sound H)(hp:H.phase=1):Iso H H.rootsU:=by
 have nd:∀j:Int,¬Doomed H j:=fun j=>not_doom (by omega) j
 have h0:=h.r1.hand
 unfold Heap.rootsU
 split
 ·exact enter_iso nd
 ·refine Hue.iso ?_ (fun j h=>absurd h (nd j))
  split
  ·exact(hue_shadeH (by omega)).trans (hue_same rfl rfl rfl rfl rfl rfl rfl)
  ·exact hue_same rfl rfl rfl rfl rfl rfl rfl
theorem mark_iso{H:Heap}(h:Sound H)(hp:H.phase=2):Iso H H.markU:=by
 have nd:∀j:Int,¬Doomed H j:=fun j=>not_doom (by omega) j
 unfold Heap.markU
 cases hg:H.gray with
 |nil=>
  simp only
  split
  ·exact(hue_shadeL H.regs H (fun w hw=>(reg_used h.r4 hw).1)).iso (fun j h=>absurd h (nd j))
  ·exact enter_iso nd
 |cons g r=>
  simp only
  obtain⟨g1,g2,g3⟩:=h.r5.mark (.inr hp)
  obtain⟨b0,b1,b2,b3⟩:=g2 g (by rw[hg];simp)
  cases hs:(H.getC g).pairs[H.sub.toNat]? with
  |none=>
   simp only
   refine Hue.iso (hue_set (i:=g.toNat) (k:=2) (by omega) ?_ rfl rfl rfl rfl rfl rfl) (fun j h=>absurd h (nd j))
   rw[show((g.toNat:Nat):Int)=g by omega];rfl
  |some p=>
   simp only
   obtain⟨⟨k1,k2⟩,v1,v2⟩:=markP h hp hg hs
   have a:=hue_shadeW k1
   have b:=hue_shadeW (H:=H.shadeW p.key) (w:=p.val) (formed_len a.len v1)
   exact Hue.iso (Hue.trans (a.trans b) (hue_same rfl rfl rfl rfl rfl rfl rfl)) (fun j h=>absurd h (nd j))
theorem sweep_iso{H:Heap}(h:Sound H)(hp:H.phase=3):Iso H H.sweepU:=by
 have h0:=h.r1.hand
 unfold Heap.sweepU
 split
 ·exact enter_iso fun j hd=>by have:=doomed_lt h.r1 hd;have:=hd.2.2.2;omega
 rename_i hh
 have hc:=getL_some (cs:=H.cells) h0.1 (by omega)
 rw[←getC_L]at hc
 have hlt:=(List.getElem?_eq_some_iff.1 hc).1
 have eh:((H.hand.toNat:Nat):Int)=H.hand:=by omega
 split
 ·rename_i hc0
  have hdh:Doomed H H.hand:=⟨hp,hc0.1,hc0.2,by omega⟩
  generalize hK:({H with used:=H.used-(1+(H.getC H.hand).pairs.length),cells:=H.cells.set H.hand.toNat Cell.zero,hand:=H.hand+1}:Heap)=K
  have gC:∀j:Int,0≤j→j≠H.hand→K.getC j=H.getC j:=fun j j0 hj=>by
   rw[getC_L,getC_L,←hK,getL_set hlt,if_neg (by omega)]
  refine iso_direct (by rw[←hK]) (fun w hw hk=>?_) (fun i c hc1 hs1 hd=>?_) (by rw[←hK]) (by rw[←hK]) (by rw[←hK]) (by rw[←hK]) (by rw[←hK])
  ·obtain⟨a,b⟩:=reg_used h.r4 hw
   have hat:=a.at hk
   obtain⟨b1,b2⟩:=b hk
   exact⟨b1,gC _ hat.1 (fun e=>b2 (by rw[e];exact hdh))⟩
  ·have hc2:(H.cells.set H.hand.toNat Cell.zero)[i]?=some c:=by rw[←hK]at hc1;exact hc1
   rcases set_gt hc2 with⟨e,rfl,_⟩|⟨e,hc3⟩
   ·simp[Cell.zero]at hs1
   ·have hgi:=getC_nat hc3
    have hnd:¬Doomed H i:=fun hd'=>hd (by
     refine⟨by rw[←hK];exact hp,?_,?_,?_⟩
     ·rw[gC _ (by omega) (by omega)];exact hd'.2.1
     ·rw[gC _ (by omega) (by omega)];exact hd'.2.2.1
     ·have:=hd'.2.2.2
      rw[←hK]
      show H.hand+1≤(i:Int);omega)
    refine⟨by rw[hgi];exact hc3,hnd,fun p hp' w hw hk=>?_⟩
    obtain⟨k,hk'⟩:=List.getElem?_of_mem hp'
    have m:=pair_used h.r4 hc3 hk' (not_mend (by omega) _ _) hnd hw
    obtain⟨b1,b2⟩:=m.2 hk
    have e2:=gC w.at_ (m.1.at hk).1 (fun e=>b2 (by rw[e];exact hdh))
    rw[e2]
    exact⟨b1,b1,rfl⟩
 ·rename_i hc0
  refine Hue.iso (hue_set (i:=H.hand.toNat) (k:=0) hlt (by rw[eh]) rfl rfl rfl rfl rfl rfl) (fun j hd=>?_)
  have hj:j≠H.hand:=fun e=>hc0 (by rw[←e];exact⟨hd.2.1,hd.2.2.1⟩)
  have hj0:=doomed_lt h.r1 hd
  have gC:Heap.getC {H with cells:=H.cells.set H.hand.toNat ((H.getC H.hand).col 0),hand:=H.hand+1} j=H.getC j:=by
   rw[getC_L,getL_set hlt,if_neg (by omega)];rfl
  refine⟨hd.1,by rw[gC];exact hd.2.1,by rw[gC];exact hd.2.2.1,?_⟩
  have:=hd.2.2.2
  show H.hand+1≤j;omega
theorem moved_get{H:Heap}{f u:Int}(hf:0≤f∧f<u)(hu:u<H.cells.length)(j:Int):(H.moved f u).getC j=if j.toNat=u.toNat then Cell.gone f else if j.toNat=f.toNat then H.getC u else H.getC j:=by
 have e1:(H.moved f u).cells=(H.cells.set f.toNat (H.getC u)).set u.toNat (Cell.gone f):=rfl
 rw[getC_L,getC_L,e1,getL_set (by simp;omega),getL_set (by omega)];rfl
theorem moved_aw{H:Heap}{f u:Int}(h:Sound H)(hp:H.phase=4)(hf0:0≤f∧f<u)(hu0:u<H.cells.length)(sf:(H.getC f).state=0)(su:(H.getC u).state=1):∀w,Formed H w→(∃m,LeadsWell H w m)→(H.moved f u).aw w=H.aw w:=fun w hf ⟨m,hl⟩=>by
 have gC:=fun j=>moved_get hf0 hu0 j
 generalize H.moved f u=K at gC⊢
 by_cases hk:w.kind=2
 ·have hat:=hf.at hk
  have hx:=getL_some (cs:=H.cells) hat.1 hat.2
  rw[←getC_L]at hx
  unfold Heap.aw
  rw[if_pos hk,if_pos hk]
  congr 1
  rcases hl hk with x|x
  ·have e:H.lead w=w:=by unfold Heap.lead;rw[if_neg (fun e=>by omega)]
   rw[e]
   by_cases hu:w.at_=u
   ·have e2:K.lead w=⟨2,0,f⟩:=by
     have e3:K.getC w.at_=Cell.gone f:=by rw[gC,if_pos (by omega)]
     unfold Heap.lead
     rw[e3,if_pos ⟨hk,rfl⟩];rfl
    rw[e2]
    show(K.getC f).born=_
    rw[gC f,if_neg (by omega),if_pos rfl,hu]
   ·have hf':w.at_≠f:=fun e=>by rw[e]at x;omega
    have e3:K.getC w.at_=H.getC w.at_:=by rw[gC,if_neg (by omega),if_neg (by omega)]
    have e2:K.lead w=w:=by unfold Heap.lead;rw[if_neg (fun e=>by rw[e3]at e;omega)]
    rw[e2,e3]
  ·rcases h.r2.each _ _ hx with y|y|y
   ·have:=y.1;omega
   ·obtain⟨y1,y2,y3,y4,y5,y6⟩:=y
    have ht1:(H.getC w.at_).to≠u:=fun e=>by
     have:=y6 hp f hf0.1 (by omega)
     exact this sf
    have ht2:(H.getC w.at_).to≠f:=fun e=>by rw[e]at y5;omega
    have hu:w.at_≠u:=fun e=>by rw[e]at y1;omega
    have hf':w.at_≠f:=fun e=>by rw[e]at y1;omega
    have e3:K.getC w.at_=H.getC w.at_:=by rw[gC,if_neg (by omega),if_neg (by omega)]
    have e4:H.lead w=⟨2,0,(H.getC w.at_).to⟩:=by unfold Heap.lead;rw[if_pos ⟨hk,y1⟩]
    have e2:K.lead w=⟨2,0,(H.getC w.at_).to⟩:=by unfold Heap.lead;rw[e3,if_pos ⟨hk,y1⟩]
    rw[e2,e4]
    show(K.getC (H.getC w.at_).to).born=(H.getC (H.getC w.at_).to).born
    rw[gC,if_neg (by omega),if_neg (by omega)]
   ·have:=y.1;omega
 ·unfold Heap.aw;rw[if_neg hk,if_neg hk]
theorem move_iso{H:Heap}(h:Sound H)(hp:H.phase=4):Iso H H.moveU:=by
 have nd:∀j:Int,¬Doomed H j:=fun j=>not_doom (by omega) j
 unfold Heap.moveU
 obtain⟨a1,a2,a3,a4⟩:=frG_ok H H.cells.length
 obtain⟨b1,b2,b3,b4⟩:=luG_ok H H.cells.length
 split
 ·exact enter_iso nd
 rename_i hlt
 have sf:=(a3 (by omega)).2
 have su:=b3 (by omega)
 generalize frG H H.cells.length=f at*
 generalize luG H H.cells.length=u at*
 have hcu:=getL_some (cs:=H.cells) (j:=u) (by omega) (by omega)
 rw[←getC_L]at hcu
 generalize hK:H.moved f u=K
 have e1:K.cells=(H.cells.set f.toNat (H.getC u)).set u.toNat (Cell.gone f):=by rw[←hK];rfl
 have gC:∀j:Int,K.getC j=if j.toNat=u.toNat then Cell.gone f else if j.toNat=f.toNat then H.getC u else H.getC j:=fun j=>by
  rw[getC_L,getC_L,e1,getL_set (by simp;omega),getL_set (by omega)];rfl
 have key:∀w,Formed H w→(∃m,LeadsWell H w m)→K.aw w=H.aw w:=by rw[←hK];exact moved_aw h hp ⟨a1,by omega⟩ b2 sf su
 refine⟨?_,fun b n hn=>?_,by rw[←hK];rfl,by rw[←hK];rfl,by rw[←hK];rfl,by rw[←hK];rfl,by rw[←hK];rfl⟩
 ·have e4:K.regs=H.regs.map fun w=>w.redir u f:=by rw[←hK];rfl
  rw[e4,List.map_map]
  refine List.map_congr_left fun w hw=>?_
  show K.aw (w.redir u f)=H.aw w
  obtain⟨r1,r2⟩:=reg_used h.r4 hw
  unfold Word.redir
  split
  ·rename_i e
   have x:=(r2 e.1).1
   rw[aw_used (H:=H) (fun hk=>(r2 hk).1),if_pos e.1,aw_used (H:=K) (fun _=>?_),if_pos (by exact e.1)]
   ·show(⟨2,0,(K.getC f).born⟩:Word)=_
    rw[gC f,if_neg (by omega),if_pos rfl,e.2]
   ·show(K.getC f).state=1
    rw[gC f,if_neg (by omega),if_pos rfl];exact su
  ·exact key w r1 ⟨False,fun hk=>.inl (r2 hk)⟩
 ·obtain⟨i,c,h1,h2,h3,h4,h5⟩:=hn
  have ob:∃j:Nat,H.cells[j]?=some c:=by
   rw[e1]at h1
   rcases set_gt h1 with⟨_,rfl,_⟩|⟨_,h1⟩
   ·simp[Cell.gone]at h2
   ·rcases set_gt h1 with⟨_,rfl,_⟩|⟨_,h1⟩
    ·exact⟨_,hcu⟩
    ·exact⟨_,h1⟩
  obtain⟨j,hj⟩:=ob
  refine⟨j,c,hj,h2,nd j,h4,?_⟩
  rw[h5]
  congr 1
  refine List.map_congr_left fun p hp'=>?_
  obtain⟨k,hk'⟩:=List.getElem?_of_mem hp'
  obtain⟨p1,p2,p3⟩:=h.r4.pairs j c hj k p hk'
  obtain⟨q1,q2⟩:=p3 (nd j)
  unfold Heap.ap
  rw[key _ p1 ⟨_,q1⟩,key _ p2 ⟨_,q2⟩]
theorem mend_iso{H:Heap}(h:Sound H)(hp:H.phase=5):Iso H H.mendU:=by
 have nd:∀j:Int,¬Doomed H j:=fun j=>not_doom (by omega) j
 have h0:=h.r1.hand
 unfold Heap.mendU
 split
 ·exact enter_iso nd
 rename_i hh
 have hc:=getL_some (cs:=H.cells) h0.1 (by omega)
 rw[←getC_L]at hc
 have hlt:=(List.getElem?_eq_some_iff.1 hc).1
 cases hs:(H.getC H.hand).pairs[H.sub.toNat]? with
 |none=>simp only;exact(hue_same rfl rfl rfl rfl rfl rfl rfl:Hue H {H with hand:=H.hand+1,sub:=0}).iso fun j h=>absurd h (nd j)
 |some p=>
  simp only
  generalize hK:({H with cells:=H.cells.set H.hand.toNat {H.getC H.hand with pairs:=(H.getC H.hand).pairs.set H.sub.toNat ⟨H.lead p.key,H.lead p.val⟩},sub:=H.sub+1}:Heap)=K
  have e1:K.cells=H.cells.set H.hand.toNat {H.getC H.hand with pairs:=(H.getC H.hand).pairs.set H.sub.toNat ⟨H.lead p.key,H.lead p.val⟩}:=by rw[←hK]
  have gC:∀j:Int,(K.getC j).state=(H.getC j).state∧(K.getC j).to=(H.getC j).to∧(K.getC j).born=(H.getC j).born:=fun j=>by
   rw[getC_L,getC_L,e1,getL_set hlt]
   split
   ·rename_i e
    have:H.getC j=H.getC H.hand:=by rw[getC_L,getC_L];unfold getL;rw[e]
    show _=(H.getC j).state∧_=(H.getC j).to∧_=(H.getC j).born
    rw[this];exact⟨rfl,rfl,rfl⟩
   ·exact⟨rfl,rfl,rfl⟩
  have haw:K.aw=H.aw:=by
   funext w
   have hl:K.lead w=H.lead w:=by unfold Heap.lead;rw[(gC _).1,(gC _).2.1]
   unfold Heap.aw
   rw[hl,(gC _).2.2]
  have hap:K.ap=H.ap:=by funext p;unfold Heap.ap;rw[haw]
  refine⟨by rw[haw,←hK],fun b n hn=>?_,by rw[←hK],by rw[←hK],by rw[←hK],by rw[←hK],by rw[←hK]⟩
  obtain⟨i,c,h1,h2,h3,h4,h5⟩:=hn
  rw[e1]at h1
  rcases set_gt h1 with⟨rfl,rfl,_⟩|⟨_,h1⟩
  ·refine⟨_,_,hc,h2,nd _,h4,?_⟩
   rw[h5,hap]
   congr 1
   obtain⟨p1,p2,p3⟩:=h.r4.pairs _ _ hc _ p hs
   obtain⟨q1,q2⟩:=p3 (nd _)
   have l1:=lead_fm h.r2 p1 q1 nd
   have l2:=lead_fm h.r2 p2 q2 nd
   have:H.ap ⟨H.lead p.key,H.lead p.val⟩=H.ap p:=by
    unfold Heap.ap
    rw[lead_lead (fun hk=>l1.2 (lead_kind.2 hk)),lead_lead (fun hk=>l2.2 (lead_kind.2 hk))]
   show List.map H.ap ((H.getC H.hand).pairs.set H.sub.toNat ⟨H.lead p.key,H.lead p.val⟩)=_
   rw[List.map_set,this]
   refine List.ext_getElem? fun k=>?_
   rw[List.getElem?_set]
   split
   ·rename_i e
    subst e
    rw[List.getElem?_map,hs]
    rw[if_pos (by rw[List.length_map];exact(List.getElem?_eq_some_iff.1 hs).1)];rfl
   ·rfl
  ·refine⟨i,c,h1,h2,nd i,h4,?_⟩
   rw[h5,hap]
theorem close_iso{H:Heap}(h:Sound H)(hp:H.phase=6):Iso H H.closeU:=by
 have nd:∀j:Int,¬Doomed H j:=fun j=>not_doom (by omega) j
 have h0:=h.r1.hand
 obtain⟨l1,l2⟩:=lead1 h hp
 unfold Heap.closeU
 split
 ·exact(hue_same rfl rfl rfl rfl rfl rfl rfl:Hue H {H.enterH 0 with rounds:=if H.rounds<1000000000 then H.rounds+1 else H.rounds}).iso fun j h=>absurd h (nd j)
 rename_i hh
 have hc:=getL_some (cs:=H.cells) (j:=H.hand-1) (by omega) (by omega)
 rw[←getC_L]at hc
 have hlt:=(List.getElem?_eq_some_iff.1 hc).1
 have hl:H.closeA.length=H.cells.length:=by unfold Heap.closeA;split<;>simp
 have gA:∀(i:Nat) c,H.closeA[i]?=some c→c.state=1→H.cells[i]?=some c:=fun i c hi hs=>by
  unfold Heap.closeA at hi
  split at hi
  ·rcases set_gt hi with⟨_,rfl,_⟩|⟨_,hi⟩
   ·simp[Cell.zero]at hs
   ·exact hi
  ·exact hi
 have gB:∀j:Int,(H.getC j).state=1→getL H.closeA j=H.getC j:=fun j hj=>by
  unfold Heap.closeA
  split
  ·rename_i e
   rw[getL_set hlt]
   split
   ·rename_i ej
    have:H.getC j=H.getC (H.hand-1):=by rw[getC_L,getC_L];unfold getL;rw[ej]
    rw[this]at hj;omega
   ·rfl
  ·rfl
 generalize hX:(if H.hand=H.cells.length∧(getL H.closeA (H.hand-1)).state=0 then H.closeA.take (H.hand-1).toNat else H.closeA)=X
 have gX:∀(i:Nat) c,X[i]?=some c→H.closeA[i]?=some c:=fun i c hi=>by
  rw[←hX]at hi
  split at hi
  ·rw[List.getElem?_take]at hi
   split at hi
   ·exact hi
   ·cases hi
  ·exact hi
 have gY:∀j:Int,0≤j→j<H.cells.length→(H.getC j).state=1→getL X j=H.getC j:=fun j j0 j1 hj=>by
  rw[←hX]
  split
  ·rename_i e
   have hne:j≠H.hand-1:=fun e2=>by
    have:=gB j hj
    rw[e2]at this
    rw[this,←e2]at e
    omega
   rw[←gB j hj]
   unfold getL
   rw[List.getD_eq_getElem?_getD,List.getD_eq_getElem?_getD,List.getElem?_take,if_pos (by omega)]
  ·exact gB j hj
 refine iso_direct (K:={H with hand:=H.hand-1,cells:=X}) rfl (fun w hw hk=>?_) (fun i c hc1 hs1 hd=>?_) rfl rfl rfl rfl rfl
 ·have a:=l1 w hw
  have hat:=a.1.at hk
  exact⟨a.2 hk,gY _ hat.1 hat.2 (a.2 hk)⟩
 ·have h2:=gA i c (gX i c hc1) hs1
  refine⟨by rw[getC_nat h2];exact h2,nd i,fun p hp' w hw hk=>?_⟩
  obtain⟨k,hk'⟩:=List.getElem?_of_mem hp'
  have a:=l2 i c h2 k p hk' w hw
  have hat:=a.1.at hk
  have e:=gY _ hat.1 hat.2 (a.2 hk)
  have e:Heap.getC {H with hand:=H.hand-1,cells:=X} w.at_=H.getC w.at_:=e
  rw[e]
  exact⟨a.2 hk,a.2 hk,rfl⟩
theorem unit_iso{H:Heap}(h:Sound H):Iso H H.unitH:=by
 unfold Heap.unitH
 split
 ·exact roots_iso h ‹_›
 split
 ·exact mark_iso h ‹_›
 split
 ·exact sweep_iso h ‹_›
 split
 ·exact move_iso h ‹_›
 split
 ·exact mend_iso h ‹_›
 split
 ·exact close_iso h ‹_›
 exact Iso.refl H
theorem iter_iso:∀(k:Nat) {H:Heap},Sound H→Iso H (iterU k H)
 |0,H,_=>Iso.refl H
 |k+1,H,h=>(unit_iso h).trans (iter_iso k (unit_sound h))
theorem round_iso{H:Heap}(h:Sound H):Iso H H.roundH:=by
 obtain⟨a,b⟩:=outH_ok h
 have h1:Iso H H.outH:=iter_iso _ h
 have h2:Iso H.outH (H.outH.enterH 1):=enter_iso fun j=>not_doom (by omega) j
 exact(h1.trans h2).trans (iter_iso _ (begin_sound a b))
noncomputable def Heap.fitsH(H:Heap)(u:Int):Heap:=if H.used+u≤H.room then H else Heap.roundH {H with forced:=if H.forced<1000000000 then H.forced+1 else H.forced}
theorem fits_ok{H:Heap}(h:Sound H)(u:Int):Sound (H.fitsH u)∧(H.fitsH u).regs.map (H.fitsH u).aw=H.regs.map H.aw∧(∀b n,Node (H.fitsH u) b n→Node H b n)∧(H.fitsH u).room=H.room∧(H.fitsH u).born=H.born∧(H.fitsH u).per=H.per∧(H.fitsH u).start=H.start:=by
 unfold Heap.fitsH
 split
 ·exact⟨h,rfl,fun _ _ x=>x,rfl,rfl,rfl,rfl⟩
 ·have hf:=h.r1.forced
  have hs:Sound {H with forced:=if H.forced<1000000000 then H.forced+1 else H.forced}:=forced_sound h (by split<;>omega)
  have i:=round_iso hs
  exact⟨(roundH_ok hs).1,i.regs,i.node,i.room,i.born,i.per,i.start⟩
noncomputable def Heap.paceH(H:Heap)(u:Int):Heap:=if H.per=0∨u=0 then H else if H.phase=0∧H.used≤H.start then H else H.stepH (H.per*u)
theorem pace_ok{H:Heap}(h:Sound H)(u:Int):Sound (H.paceH u):=by
 unfold Heap.paceH
 split
 ·exact h
 ·split
  ·exact h
  ·exact stepH_ok h _
def Heap.getR(H:Heap)(r:Int):Word:=H.regs.getD r.toNat ⟨0,0,0⟩
def Heap.setR(H:Heap)(r:Int)(w:Word):Heap:={H with regs:=H.regs.set r.toNat w}
theorem getR_mem{H:Heap}(h:R1 H){r:Int}(h0:0≤r)(h1:r≤15):H.regs[r.toNat]?=some (H.getR r)∧H.getR r∈H.regs:=by
 have:r.toNat<H.regs.length:=by rw[h.regs];omega
 have e:H.regs[r.toNat]?=some (H.getR r):=by
  unfold Heap.getR
  rw[List.getD_eq_getElem?_getD,List.getElem?_eq_getElem this];rfl
 exact⟨e,List.mem_of_getElem? e⟩
theorem getR_ok{H:Heap}(h:Sound H){r:Int}(h0:0≤r)(h1:r≤15):Formed H (H.getR r)∧((H.getR r).kind=2→0≤(H.getR r).at_∧(H.getR r).at_<H.cells.length∧(H.getC (H.getR r).at_).state=1∧¬Doomed H (H.getR r).at_):=by
 obtain⟨a,b⟩:=reg_used h.r4 (getR_mem h.r1 h0 h1).2
 exact⟨a,fun hk=>⟨(a.at hk).1,(a.at hk).2,(b hk).1,(b hk).2⟩⟩
theorem setR_sound{H:Heap}(h:Sound H){r:Int}{w:Word}(hf:Formed H w)(hl:LeadsWell H w False):Sound (H.setR r w):=reg_sound h hf hl
theorem no_formed(H:Heap):Formed H ⟨0,0,0⟩∧LeadsWell H ⟨0,0,0⟩ False:=⟨.inl ⟨rfl,rfl,rfl⟩,fun hk=>by simp at hk⟩
theorem num_formed(H:Heap)(n:Int):Formed H ⟨1,n,0⟩∧LeadsWell H ⟨1,n,0⟩ False:=⟨.inr (.inl ⟨rfl,rfl⟩),fun hk=>by simp at hk⟩
theorem reg_leads{H:Heap}(h:Sound H){r:Int}(h0:0≤r)(h1:r≤15):LeadsWell H (H.getR r) False:=fun hk=>.inl ⟨((getR_ok h h0 h1).2 hk).2.2.1,((getR_ok h h0 h1).2 hk).2.2.2⟩
theorem reg_len{H K:Heap}(h:Sound H)(k:Sound K)(hr:K.regs.map K.aw=H.regs.map H.aw)(hn:∀b n,Node K b n→Node H b n){r:Int}(h0:0≤r)(h1:r≤15)(hk:(H.getR r).kind=2):
 (K.getR r).kind=2∧(K.getC (K.getR r).at_).pairs.length=(H.getC (H.getR r).at_).pairs.length:=by
 obtain⟨a1,a2⟩:=getR_ok h h0 h1
 obtain⟨b1,b2⟩:=getR_ok k h0 h1
 have e:K.aw (K.getR r)=H.aw (H.getR r):=by
  have e1:=congrArg (fun l=>l[r.toNat]?) hr
  simp only[List.getElem?_map,(getR_mem h.r1 h0 h1).1,(getR_mem k.r1 h0 h1).1,Option.map_some,Option.some.injEq]at e1
  exact e1
 have kd:∀(L:Heap) (w:Word),(L.aw w).kind=w.kind:=fun L w=>by
  unfold Heap.aw
  split
  ·rename_i e;rw[e]
  ·rfl
 have hk2:(K.getR r).kind=2:=by rw[←kd K,e,kd H];exact hk
 refine⟨hk2,?_⟩
 obtain⟨c0,c1,c2,c3⟩:=a2 hk
 obtain⟨d0,d1,d2,d3⟩:=b2 hk2
 rw[aw_used (fun _=>c2),aw_used (fun _=>d2),if_pos hk,if_pos hk2]at e
 have eb:(K.getC (K.getR r).at_).born=(H.getC (H.getR r).at_).born:=by
  have:=congrArg Word.at_ e;exact this
 have hx:=getL_some (cs:=H.cells) c0 c1
 have hy:=getL_some (cs:=K.cells) d0 d1
 rw[←getC_L]at hx hy
 have n1:Node H (H.getC (H.getR r).at_).born ⟨_,_,_,_⟩:=⟨(H.getR r).at_.toNat,_,hx,c2,by rw[show(((H.getR r).at_.toNat:Nat):Int)=(H.getR r).at_ by omega];exact c3,rfl,rfl⟩
 have n2:Node K (K.getC (K.getR r).at_).born ⟨_,_,_,_⟩:=⟨(K.getR r).at_.toNat,_,hy,d2,by rw[show(((K.getR r).at_.toNat:Nat):Int)=(K.getR r).at_ by omega];exact d3,rfl,rfl⟩
 rw[eb]at n2
 have:=congrArg (fun n=>n.pairs.length) (node_one h.r2 (hn _ _ n2) n1)
 simpa using this
def Heap.growC(K:Heap)(i n:Nat):Heap:=K.putC i {K.getC i with pairs:=(K.getC i).pairs++List.replicate n Pair.no} (K.used+n) K.sub
theorem grow_sound{K:Heap}{i n:Nat}(h:Sound K)(hi:i<K.cells.length)(hs:(K.getC i).state=1)(hn:(K.getC i).pairs.length+n≤200)(hr:K.used+n≤K.room):Sound (K.growC i n):=by
 have hc:=get_at hi
 have hsub:=h.r1.sub
 refine put_sound h hc hs ⟨hs,rfl,rfl,rfl,rfl⟩ (h.r2.used hc hs).2.2.1 (h.r2.used hc hs).2.2.2.1 (by simp;omega) (by simp;omega) hr (fun _=>rfl) hsub.1 (fun e=>?_) (fun hr=>.inl hr) (fun k p hp=>?_)
 ·have:=walked_sub h hi e
  simp;omega
 ·show Formed K p.key∧Formed K p.val∧(¬Doomed K i→LeadsWell K p.key (¬Mended K i k)∧LeadsWell K p.val (¬Mended K i k))∧(Marking K→(k:Int)<scanned K i {K.getC i with pairs:=(K.getC i).pairs++List.replicate n Pair.no}→¬White K p.key∧¬White K p.val)
  by_cases hk:k<(K.getC i).pairs.length
  ·have hp':(K.getC i).pairs[k]?=some p:=by
    have:((K.getC i).pairs++List.replicate n Pair.no)[k]?=some p:=hp
    rw[List.getElem?_append_left hk]at this;exact this
   obtain⟨a,b,g⟩:=h.r4.pairs i _ hc k p hp'
   refine⟨a,b,g,fun hm hsc=>(h.r7 hm i _ hc).2 k p hp' ?_⟩
   unfold scanned at hsc⊢
   split
   ·omega
   ·rename_i e
    rw[if_neg e]at hsc;exact hsc
  ·have hp':p=Pair.no:=by
    have:((K.getC i).pairs++List.replicate n Pair.no)[k]?=some p:=hp
    rw[List.getElem?_append_right (by omega),List.getElem?_replicate]at this
    split at this
    ·cases this;rfl
    ·cases this
   rw[hp']
   exact⟨.inl ⟨rfl,rfl,rfl⟩,.inl ⟨rfl,rfl,rfl⟩,fun _=>⟨fun hk=>by simp[Pair.no]at hk,fun hk=>by simp[Pair.no]at hk⟩,fun _ _=>⟨fun hw=>by have:=hw.1;simp[Pair.no]at this,fun hw=>by have:=hw.1;simp[Pair.no]at this⟩⟩
noncomputable def Heap.cutN(K:Heap)(i n:Nat):Heap:=K.putC i {K.getC i with pairs:=(K.getC i).pairs.take n} (K.used-((K.getC i).pairs.length-n)) (if K.walkedI=i then min K.sub n else K.sub)
theorem cutN_sound{K:Heap}{i n:Nat}(h:Sound K)(hi:i<K.cells.length)(hs:(K.getC i).state=1)(hn:n≤(K.getC i).pairs.length):Sound (K.cutN i n):=by
 have hc:=get_at hi
 have hsub:=h.r1.sub
 have hle:(if K.walkedI=i then min K.sub n else K.sub)≤K.sub∧0≤(if K.walkedI=i then min K.sub n else K.sub):=by split<;>omega
 refine put_sound h hc hs ⟨hs,rfl,rfl,rfl,rfl⟩ (h.r2.used hc hs).2.2.1 (h.r2.used hc hs).2.2.2.1 (by simp;have:=(h.r2.used hc hs).2.2.2.2.2.2.2;omega) (by simp;omega) ?_ (fun e=>by rw[if_neg e]) hle.2 (fun e=>?_) (fun hr=>.inl hr) (fun k p hp=>?_)
 ·have:=h.r3.2;omega
 ·have:=walked_sub h hi e
  rw[if_pos e]
  simp;omega
 ·have hp':(K.getC i).pairs[k]?=some p∧k<n:=by
   have:((K.getC i).pairs.take n)[k]?=some p:=hp
   rw[List.getElem?_take]at this
   split at this
   ·exact⟨this,by assumption⟩
   ·cases this
  obtain⟨a,b,g⟩:=h.r4.pairs i _ hc k p hp'.1
  generalize(if K.walkedI=i then min K.sub n else K.sub)=s at hle
  have hmm:¬Mended K i k→¬Mended {K with sub:=s} i k:=fun x y=>x (by
   unfold Mended at y⊢
   refine⟨y.1,fun e=>?_⟩
   rcases y.2 e with z|z
   ·exact .inl z
   ·refine .inr ⟨z.1,?_⟩
    have:(k:Int)<s:=z.2
    omega)
  refine⟨a,b,fun hd=>?_,fun hm hsc=>(h.r7 hm i _ hc).2 k p hp'.1 ?_⟩
  ·obtain⟨g1,g2⟩:=g hd
   exact⟨leads_of (fun _=>rfl) (fun _ x=>x) hmm g1,leads_of (fun _=>rfl) (fun _ x=>x) hmm g2⟩
  ·have hkl:=(List.getElem?_eq_some_iff.1 hp'.1).1
   unfold scanned at hsc⊢
   split
   ·omega
   ·rename_i e
    rw[if_neg e]at hsc
    split
    ·rename_i e2
     rw[if_pos e2]at hsc
     have:(k:Int)<s:=hsc
     omega
    ·rename_i e2
     rw[if_neg e2]at hsc;exact hsc
def Heap.putP(K:Heap)(i k:Nat)(q:Pair):Heap:={K with cells:=K.cells.set i {K.getC i with pairs:=(K.getC i).pairs.set k q}}
theorem putP_sound{K:Heap}{i k:Nat}{p q:Pair}(h:Sound K)(hi:i<K.cells.length)(hs:(K.getC i).state=1)(hp:(K.getC i).pairs[k]?=some p)
 (hq:∀w,(w=q.key∨w=q.val)→(w=p.key∧q.key=w∨w=p.val∧q.val=w)∨(Formed K w∧LeadsWell K w False∧(Marking K→¬White K w))):Sound (K.putP i k q):=by
 have hc:=get_at hi
 have hsub:=h.r1.sub
 have hl:((K.getC i).pairs.set k q).length=(K.getC i).pairs.length:=by simp
 refine put_sound (u:=K.used) (s:=K.sub) h hc hs ⟨hs,rfl,rfl,rfl,rfl⟩ (h.r2.used hc hs).2.2.1 (h.r2.used hc hs).2.2.2.1 (by simp;exact(h.r2.used hc hs).2.2.2.2.2.2.2) (by simp) h.r3.2 (fun _=>rfl) hsub.1 (fun e=>by
  have:=walked_sub h hi e
  simp;omega) (fun hr=>.inl hr) (fun j r hr=>?_)
 show Formed K r.key∧Formed K r.val∧(¬Doomed K i→LeadsWell K r.key (¬Mended K i j)∧LeadsWell K r.val (¬Mended K i j))∧(Marking K→(j:Int)<scanned K i {K.getC i with pairs:=(K.getC i).pairs.set k q}→¬White K r.key∧¬White K r.val)
 have hsce:scanned K i {K.getC i with pairs:=(K.getC i).pairs.set k q}=scanned K i (K.getC i):=by unfold scanned;simp
 have hr':((K.getC i).pairs.set k q)[j]?=some r:=hr
 rw[List.getElem?_set]at hr'
 rw[hsce]
 split at hr'
 ·rename_i e
  subst e
  split at hr'
  ·cases hr'
   obtain⟨a,b,g⟩:=h.r4.pairs i _ hc k p hp
   have g7:=fun hm=>(h.r7 hm i _ hc).2 k p hp
   have key:∀w,(w=q.key∨w=q.val)→Formed K w∧(¬Doomed K i→LeadsWell K w (¬Mended K i k))∧(Marking K→(k:Int)<scanned K i (K.getC i)→¬White K w):=fun w hw=>by
    rcases hq w hw with(⟨x,_⟩|⟨x,_⟩)|⟨x1,x2,x3⟩
    ·rw[x];exact⟨a,fun hd=>(g hd).1,fun hm hsc=>(g7 hm hsc).1⟩
    ·rw[x];exact⟨b,fun hd=>(g hd).2,fun hm hsc=>(g7 hm hsc).2⟩
    ·exact⟨x1,fun _=>leads_of (fun _=>rfl) (fun _ x=>x) (fun x=>x.elim) x2,fun hm _=>x3 hm⟩
   have k1:=key _ (.inl rfl)
   have k2:=key _ (.inr rfl)
   exact⟨k1.1,k2.1,fun hd=>⟨k1.2.1 hd,k2.2.1 hd⟩,fun hm hsc=>⟨k1.2.2 hm hsc,k2.2.2 hm hsc⟩⟩
  ·cases hr'
 ·obtain⟨a,b,g⟩:=h.r4.pairs i _ hc j r hr'
  exact⟨a,b,g,fun hm hsc=>(h.r7 hm i _ hc).2 j r hr' hsc⟩
def Heap.putW(K:Heap)(i:Nat)(w:Int):Heap:={K with cells:=K.cells.set i {K.getC i with weak:=w}}
def Heap.putL(K:Heap)(i:Nat)(l:Int):Heap:={K with cells:=K.cells.set i {K.getC i with last:=l}}
theorem put_words{K:Heap}{i:Nat}{d:Cell}(h:Sound K)(hi:i<K.cells.length)(hs:(K.getC i).state=1)(hd:d.state=1∧d.kind=(K.getC i).kind∧d.born=(K.getC i).born∧d.color=(K.getC i).color∧d.to=(K.getC i).to)(hp:d.pairs=(K.getC i).pairs)(hw:0≤d.weak∧d.weak≤3)(hl:0≤d.last∧d.last≤3)
 (hrt:Root d→Root (K.getC i)∨(¬Doomed K i∧(Marking K→d.color≠0))):Sound {K with cells:=K.cells.set i d}:=by
 have hc:=get_at hi
 have hsub:=h.r1.sub
 refine put_sound (u:=K.used) (s:=K.sub) h hc hs hd hw hl (by rw[hp];exact(h.r2.used hc hs).2.2.2.2.2.2.2) (by rw[hp];omega) h.r3.2 (fun _=>rfl) hsub.1 (fun e=>by
  have:=walked_sub h hi e
  rw[hp];exact this) hrt (fun j r hr=>?_)
 show Formed K r.key∧Formed K r.val∧(¬Doomed K i→LeadsWell K r.key (¬Mended K i j)∧LeadsWell K r.val (¬Mended K i j))∧(Marking K→(j:Int)<scanned K i d→¬White K r.key∧¬White K r.val)
 rw[hp]at hr
 obtain⟨a,b,g⟩:=h.r4.pairs i _ hc j r hr
 refine⟨a,b,g,fun hm hsc=>(h.r7 hm i _ hc).2 j r hr ?_⟩
 unfold scanned at hsc⊢
 rw[hp,hd.2.2.2.1]at hsc;exact hsc
theorem putW_sound{K:Heap}{i:Nat}{w:Int}(h:Sound K)(hi:i<K.cells.length)(hs:(K.getC i).state=1)(hw:0≤w∧w≤3):Sound (K.putW i w):=
 put_words h hi hs ⟨hs,rfl,rfl,rfl,rfl⟩ rfl hw (h.r2.used (get_at hi) hs).2.2.2.1 (fun hr=>.inl hr)
theorem putL_sound{K:Heap}{i:Nat}{l:Int}(h:Sound K)(hi:i<K.cells.length)(hs:(K.getC i).state=1)(hl:0≤l∧l≤3)(hr:l=1∨l=2→¬Doomed K i∧(Marking K→(K.getC i).color≠0)):Sound (K.putL i l):=
 put_words h hi hs ⟨hs,rfl,rfl,rfl,rfl⟩ rfl (h.r2.used (get_at hi) hs).2.2.1 hl (fun hx=>.inr (hr hx.2))
structure Out where
 heap:Heap
 code:Int
 num:Int
def aMost(op:Int):Int:=if op=18∨20≤op then 0 else 15
def bMost(op:Int):Int:=if op=1 then 255 else if 4≤op∧op≤8∨op=13 then 15 else if op=23 then 64 else 0
def cMost(op:Int):Int:=if op=1∨op=9∨op=10 then 200 else if 5≤op∧op≤8 then 199 else if op=11 then 3 else if op=12 then 1 else if op=22 then 100000 else if op=23 then 4000 else 0
def ActP(a:Act):Prop:=(1≤a.op∧a.op≤24)∧(a.op=2∨a.n=0)∧(0≤a.a∧a.a≤aMost a.op)∧(0≤a.b∧a.b≤bMost a.op)∧(0≤a.c∧a.c≤cMost a.op)
noncomputable def doNew(H:Heap)(a:Act):Out:=
 if H.born=1000000000 then⟨H,4,0⟩
 else if(H.fitsH (1+a.c)).used+(1+a.c)≤(H.fitsH (1+a.c)).room then⟨((H.fitsH (1+a.c)).newH a.a.toNat a.b a.c.toNat).paceH (1+a.c),0,0⟩
 else⟨H.fitsH (1+a.c),4,0⟩
noncomputable def doGrow(H:Heap)(a:Act):Out:=
 if(H.getC (H.getR a.a).at_).pairs.length+a.c>200 then⟨H,5,0⟩
 else if(H.fitsH a.c).used+a.c≤(H.fitsH a.c).room then⟨((H.fitsH a.c).growC ((H.fitsH a.c).getR a.a).at_.toNat a.c.toNat).paceH a.c,0,0⟩
 else⟨H.fitsH a.c,4,0⟩
noncomputable def Heap.cutH(H:Heap)(i n:Nat):Heap:=if n<(H.getC i).pairs.length then H.cutN i n else H
noncomputable def doPair(H:Heap)(a:Act):Out:=
 let w:=H.getR (if a.op=5∨a.op=6 then a.b else a.a)
 if w.kind≠2 then⟨H,2,0⟩
 else match(H.getC w.at_).pairs[a.c.toNat]? with
  |none=>⟨H,3,0⟩
  |some p=>
   if a.op=5 then⟨H.setR a.a (H.lead p.key),0,0⟩
   else if a.op=6 then⟨H.setR a.a (H.lead p.val),0,0⟩
   else if a.op=7 then⟨(H.shadeW (H.getR a.b)).putP w.at_.toNat a.c.toNat ⟨H.getR a.b,p.val⟩,0,0⟩
   else⟨(H.shadeW (H.getR a.b)).putP w.at_.toNat a.c.toNat ⟨p.key,H.getR a.b⟩,0,0⟩
noncomputable def doCell(H:Heap)(a:Act):Out:=
 let w:=H.getR a.a
 if w.kind≠2 then⟨H,2,0⟩
 else if a.op=9 then doGrow H a
 else if a.op=10 then⟨H.cutH w.at_.toNat a.c.toNat,0,0⟩
 else if a.op=11 then⟨H.putW w.at_.toNat a.c,0,0⟩
 else if a.op=12 then⟨(if a.c=1 then H.shadeW w else H).putL w.at_.toNat a.c,0,0⟩
 else if a.op=16 then⟨H,0,(H.getC w.at_).kind⟩
 else⟨H,0,(H.getC w.at_).pairs.length⟩
noncomputable def doDue(H:Heap)(a:Act):Out:=
 if ndG H H.cells.length<0 then⟨H.setR a.a ⟨0,0,0⟩,0,0⟩
 else⟨(H.putL (ndG H H.cells.length).toNat 3).setR a.a ⟨2,0,ndG H H.cells.length⟩,0,1⟩
noncomputable def doA(H:Heap)(a:Act):Out:=
 if a.op=1 then doNew H a
 else if a.op=2 then⟨H.setR a.a ⟨1,a.n,0⟩,0,0⟩
 else if a.op=3 then⟨H.setR a.a ⟨0,0,0⟩,0,0⟩
 else if a.op=4 then⟨H.setR a.a (H.getR a.b),0,0⟩
 else if a.op≤8 then doPair H a
 else if a.op≤12 then doCell H a
 else if a.op=13 then⟨H,0,if H.getR a.a=H.getR a.b then 1 else 0⟩
 else if a.op=14 then⟨H,0,(H.getR a.a).kind⟩
 else if a.op=15 then(if(H.getR a.a).kind=1 then⟨H,0,(H.getR a.a).num⟩else⟨H,2,0⟩)
 else if a.op≤17 then doCell H a
 else if a.op=18 then⟨H.settleH,0,d2 H H.cells.length⟩
 else if a.op=19 then doDue H a
 else if a.op=20 then⟨H,0,sumT H (heldL H) H.cells.length⟩
 else if a.op=21 then⟨H,0,sumT H (reachL H) H.cells.length⟩
 else if a.op=22 then⟨H.stepH a.c,0,0⟩
 else if a.op=23 then⟨{H with per:=a.b,start:=a.c},0,0⟩
 else⟨H.roundH,0,0⟩
noncomputable def actA(H:Heap)(a:Act):Out:=if ActP a then doA H a else⟨H,1,0⟩
theorem aMost_le(op:Int):aMost op≤15:=by unfold aMost;split<;>omega
theorem doNew_sound{H:Heap}{a:Act}(h:Sound H)(ha:ActP a)(ho:a.op=1):Sound (doNew H a).heap:=by
 obtain⟨_,_,a1,a2,a3⟩:=ha
 rw[ho]at a1 a2 a3
 simp[bMost,cMost]at a2 a3
 obtain⟨f1,f2,f3,f4,f5,f6,f7⟩:=fits_ok h (1+a.c)
 unfold doNew
 split
 ·exact h
 ·rename_i hb
  split
  ·refine pace_ok (new_sound f1 ?_ ?_ (by omega) (by omega)) _
   ·have:=h.r1.born;omega
   ·exact a2
  ·exact f1
theorem doGrow_sound{H:Heap}{a:Act}(h:Sound H)(ha:0≤a.a∧a.a≤15)(hc:0≤a.c)(hk:(H.getR a.a).kind=2):Sound (doGrow H a).heap:=by
 obtain⟨f1,f2,f3,f4,f5,f6,f7⟩:=fits_ok h a.c
 unfold doGrow
 split
 ·exact h
 ·rename_i hl
  split
  ·obtain⟨g1,g2⟩:=reg_len h f1 f2 f3 ha.1 ha.2 hk
   obtain⟨k1,k2⟩:=getR_ok f1 ha.1 ha.2
   obtain⟨b0,b1,b2,b3⟩:=k2 g1
   have e:((((H.fitsH a.c).getR a.a).at_.toNat:Nat):Int)=((H.fitsH a.c).getR a.a).at_:=by omega
   exact pace_ok (grow_sound f1 (by omega) (by rw[e];exact b2) (by rw[e];omega) (by omega)) _
  ·exact f1
theorem shade_marks{H:Heap}{w:Word}:Marking (H.shadeW w)↔Marking H:=by
 have e:(H.shadeW w).phase=H.phase:=by
  unfold Heap.shadeW Heap.shadeH
  split
  ·split<;>rfl
  ·rfl
 unfold Marking
 rw[e]
theorem doPair_sound{H:Heap}{a:Act}(h:Sound H)(ha:0≤a.a∧a.a≤15)(hb:0≤a.b∧a.b≤15):Sound (doPair H a).heap:=by
 unfold doPair
 have hx:0≤(if a.op=5∨a.op=6 then a.b else a.a)∧(if a.op=5∨a.op=6 then a.b else a.a)≤15:=by split<;>assumption
 obtain⟨r1,r2⟩:=getR_ok h hx.1 hx.2
 generalize H.getR (if a.op=5∨a.op=6 then a.b else a.a)=w at*
 simp only
 split
 ·exact h
 rename_i hk
 obtain⟨b0,b1,b2,b3⟩:=r2 (by omega)
 have hc:=getL_some (cs:=H.cells) b0 b1
 rw[←getC_L]at hc
 have e:((w.at_.toNat:Nat):Int)=w.at_:=by omega
 cases hp:(H.getC w.at_).pairs[a.c.toNat]? with
 |none=>exact h
 |some p=>
  simp only
  obtain⟨p1,p2,g⟩:=h.r4.pairs _ _ hc _ p hp
  rw[e]at g
  obtain⟨g1,g2⟩:=g b3
  obtain⟨s1,s2⟩:=getR_ok h hb.1 hb.2
  obtain⟨q1,q2⟩:=shadeW_ok s1 (fun hk=>(s2 hk).2.2.1)
  have cc:=q1.cell w.at_
  have hfm:Formed (H.shadeW (H.getR a.b)) (H.getR a.b)∧LeadsWell (H.shadeW (H.getR a.b)) (H.getR a.b) False∧(Marking (H.shadeW (H.getR a.b))→¬White (H.shadeW (H.getR a.b)) (H.getR a.b)):=by
   have hx:=getR_mem h.r1 hb.1 hb.2
   have:=(q1.sound h).r4.regs (H.getR a.b) (by rw[q1.regs];exact hx.2)
   exact⟨this.1,this.2,fun hm=>q2 (shade_marks.1 hm)⟩
  have put:∀q:Pair,(∀v,(v=q.key∨v=q.val)→(v=p.key∧q.key=v∨v=p.val∧q.val=v)∨v=H.getR a.b)→Sound ((H.shadeW (H.getR a.b)).putP w.at_.toNat a.c.toNat q):=fun q hq=>
   putP_sound (p:=p) (q1.sound h) (by rw[q1.len];omega) (by rw[e,cc.1];exact b2) (by rw[e,cc.2.1];exact hp) (fun v hv=>by
    rcases hq v hv with x|x
    ·exact .inl x
    ·rw[x];exact .inr hfm)
  split
  ·obtain⟨x,y⟩:=lead_well h p1 g1
   exact setR_sound h x y
  split
  ·obtain⟨x,y⟩:=lead_well h p2 g2
   exact setR_sound h x y
  split
  ·refine put _ (fun v hv=>?_)
   rcases hv with rfl|rfl
   ·exact .inr rfl
   ·exact .inl (.inr ⟨rfl,rfl⟩)
  ·refine put _ (fun v hv=>?_)
   rcases hv with rfl|rfl
   ·exact .inl (.inl ⟨rfl,rfl⟩)
   ·exact .inr rfl
theorem doCell_sound{H:Heap}{a:Act}(h:Sound H)(ha:ActP a)(hr:0≤a.a∧a.a≤15):Sound (doCell H a).heap:=by
 unfold doCell
 simp only
 obtain⟨r1,r2⟩:=getR_ok h hr.1 hr.2
 obtain⟨_,_,_,_,a3⟩:=ha
 split
 ·exact h
 rename_i hk
 have hk:(H.getR a.a).kind=2:=by omega
 obtain⟨b0,b1,b2,b3⟩:=r2 hk
 have e:(((H.getR a.a).at_.toNat:Nat):Int)=(H.getR a.a).at_:=by omega
 split
 ·exact doGrow_sound h hr a3.1 hk
 split
 ·rename_i ho
  unfold Heap.cutH
  show Sound (if _ then _ else _)
  split
  ·exact cutN_sound h (by omega) (by rw[e];exact b2) (by omega)
  ·exact h
 split
 ·rename_i ho
  rw[ho]at a3
  simp[cMost]at a3
  exact putW_sound h (by omega) (by rw[e];exact b2) a3
 split
 ·rename_i ho
  rw[ho]at a3
  simp[cMost]at a3
  by_cases hc:a.c=1
  ·rw[if_pos hc]
   obtain⟨q1,q2⟩:=shadeW_ok r1 (fun hk=>(r2 hk).2.2.1)
   have hx:=(q1.sound h).r4.regs (H.getR a.a) (by rw[q1.regs];exact(getR_mem h.r1 hr.1 hr.2).2)
   refine putL_sound (q1.sound h) (by rw[q1.len];omega) (by rw[e,(q1.cell _).1];exact b2) (by omega) (fun _=>?_)
   rw[e]
   refine⟨?_,fun hm hcl=>q2 (shade_marks.1 hm) ⟨hk,hcl⟩⟩
   rcases hx.2 hk with x|x
   ·exact x.2
   ·exact x.2.elim
  ·rw[if_neg hc]
   exact putL_sound h (by omega) (by rw[e];exact b2) (by omega) (fun hx=>by omega)
 split
 ·exact h
 ·exact h
theorem ndG_last(H:Heap):∀k:Nat,0≤ndG H k→(H.getC (ndG H k)).last=2
 |0,h=>by simp[ndG]at h
 |k+1,h=>by
  unfold ndG at h⊢
  split
  ·rename_i e;exact e.1
  ·rename_i e;rw[if_neg e]at h;exact ndG_last H k h
theorem doDue_sound{H:Heap}{a:Act}(h:Sound H)(hr:0≤a.a∧a.a≤15):Sound (doDue H a).heap:=by
 unfold doDue
 have hlt:=ndG_lt H H.cells.length
 have hls:=ndG_last H H.cells.length
 generalize ndG H H.cells.length=d at*
 split
 ·exact setR_sound h (no_formed H).1 (no_formed H).2
 rename_i h0
 have e:((d.toNat:Nat):Int)=d:=by omega
 have hc:=getL_some (cs:=H.cells) (j:=d) (by omega) (by omega)
 rw[←getC_L]at hc
 have hs:=last2 h.r2 hc (hls (by omega))
 have hnd:¬Doomed H d:=fun hd=>h.r4.roots _ _ hc (by rw[e];exact hd) ⟨hs,.inr (hls (by omega))⟩
 have hp:Sound (H.putL d.toNat 3):=putL_sound h (by omega) (by rw[e];exact hs) (by omega) (fun hx=>by omega)
 have gC:∀j:Int,((H.putL d.toNat 3).getC j).state=(H.getC j).state∧((H.putL d.toNat 3).getC j).color=(H.getC j).color:=fun j=>by
  have:(H.putL d.toNat 3).getC j=if j.toNat=d.toNat then{H.getC d.toNat with last:=3}else H.getC j:=by rw[getC_L,getC_L];exact getL_set (by omega)
  rw[this]
  split
  ·rename_i ej
   have:H.getC j=H.getC d.toNat:=by rw[getC_L,getC_L];unfold getL;rw[ej];rfl
   rw[this];exact⟨rfl,rfl⟩
  ·exact⟨rfl,rfl⟩
 refine setR_sound hp (.inr (.inr ⟨rfl,rfl,by show 0≤d;omega,?_⟩)) (fun _=>.inl ⟨?_,fun hd=>hnd ?_⟩)
 ·show d<((H.cells.set d.toNat _).length:Int)
  rw[List.length_set];omega
 ·show((H.putL d.toNat 3).getC d).state=1
  rw[(gC d).1];exact hs
 ·have hd:Doomed (H.putL d.toNat 3) d:=hd
  exact⟨hd.1,by rw[←(gC d).1];exact hd.2.1,by rw[←(gC d).2];exact hd.2.2.1,hd.2.2.2⟩
theorem out_if{p:Prop}[Decidable p]{A B:Out}(hA:p→Sound A.heap)(hB:¬p→Sound B.heap):Sound (if p then A else B).heap:=by
 by_cases h:p
 ·rw[if_pos h];exact hA h
 ·rw[if_neg h];exact hB h
theorem doA_sound{H:Heap}{a:Act}(h:Sound H)(ha:ActP a):Sound (doA H a).heap:=by
 have ha':=ha
 obtain⟨a0,_,a1,a2,a3⟩:=ha'
 have hr:0≤a.a∧a.a≤15:=⟨a1.1,by have:=aMost_le a.op;omega⟩
 unfold doA
 refine out_if (fun ho=>doNew_sound h ha ho) (fun h1=>?_)
 refine out_if (fun ho=>setR_sound h (num_formed H _).1 (num_formed H _).2) (fun h2=>?_)
 refine out_if (fun ho=>setR_sound h (no_formed H).1 (no_formed H).2) (fun h3=>?_)
 refine out_if (fun ho=>?_) (fun h4=>?_)
 ·rw[ho]at a2
  simp[bMost]at a2
  exact setR_sound h (getR_ok h a2.1 a2.2).1 (reg_leads h a2.1 a2.2)
 refine out_if (fun ho=>?_) (fun h5=>?_)
 ·refine doPair_sound h hr ?_
  unfold bMost at a2
  rw[if_neg (by omega),if_pos (by omega)]at a2
  exact a2
 refine out_if (fun ho=>doCell_sound h ha hr) (fun h6=>?_)
 refine out_if (fun ho=>h) (fun h7=>?_)
 refine out_if (fun ho=>h) (fun h8=>?_)
 refine out_if (fun ho=>out_if (fun _=>h) (fun _=>h)) (fun h9=>?_)
 refine out_if (fun ho=>doCell_sound h ha hr) (fun h10=>?_)
 refine out_if (fun ho=>settle_sound h) (fun h11=>?_)
 refine out_if (fun ho=>doDue_sound h hr) (fun h12=>?_)
 refine out_if (fun ho=>h) (fun h13=>?_)
 refine out_if (fun ho=>h) (fun h14=>?_)
 refine out_if (fun ho=>stepH_ok h _) (fun h15=>?_)
 refine out_if (fun ho=>?_) (fun h16=>(roundH_ok h).1)
 rw[ho]at a2 a3
 simp[bMost,cMost]at a2 a3
 exact pace_sound h a2 a3
theorem actA_sound{H:Heap}{a:Act}(h:Sound H):Sound (actA H a).heap:=by
 unfold actA
 split
 ·exact doA_sound h ‹_›
 ·exact h
end Go.Proofs.YtpleoapljeffiaaGreatDoor.E
