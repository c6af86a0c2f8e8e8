/- A part of the proof. Conditions: none. -/
import Derived.Test.YtpleoapljeffiaaDoorKC13
set_option linter.unusedVariables false
set_option linter.unusedSimpArgs false
namespace Go.Proofs.YtpleoapljeffiaaDoor.E
open Go
open Classical
structure OutI where
 s:Ideal
 code:Int
 num:Int
noncomputable def newI(s:Ideal)(a:Act):OutI:=
 if liveI s+(1+a.c)≤s.room then⟨(s.push ⟨a.b,0,0,List.replicate a.c.toNat Pair.no⟩).setR a.a ⟨2,0,s.things.length+1⟩,0,0⟩else⟨s,4,0⟩
noncomputable def pairI(s:Ideal)(a:Act):OutI:=
 let w:=s.getR (if a.op=5∨a.op=6 then a.b else a.a)
 if w.kind≠2 then⟨s,2,0⟩
 else match(s.nd w.at_).pairs[a.c.toNat]? with
  |none=>⟨s,3,0⟩
  |some p=>
   if a.op=5 then⟨s.setR a.a p.key,0,0⟩
   else if a.op=6 then⟨s.setR a.a p.val,0,0⟩
   else if a.op=7 then⟨s.upd w.at_ {s.nd w.at_ with pairs:=(s.nd w.at_).pairs.set a.c.toNat ⟨s.getR a.b,p.val⟩},0,0⟩
   else⟨s.upd w.at_ {s.nd w.at_ with pairs:=(s.nd w.at_).pairs.set a.c.toNat ⟨p.key,s.getR a.b⟩},0,0⟩
noncomputable def cellI(s:Ideal)(a:Act):OutI:=
 let w:=s.getR a.a
 if w.kind≠2 then⟨s,2,0⟩
 else if a.op=9 then
  (if(s.nd w.at_).pairs.length+a.c>200 then⟨s,5,0⟩
  else if liveI s+a.c≤s.room then⟨s.upd w.at_ {s.nd w.at_ with pairs:=(s.nd w.at_).pairs++List.replicate a.c.toNat Pair.no},0,0⟩
  else⟨s,4,0⟩)
 else if a.op=10 then⟨s.upd w.at_ {s.nd w.at_ with pairs:=(s.nd w.at_).pairs.take a.c.toNat},0,0⟩
 else if a.op=11 then⟨s.upd w.at_ {s.nd w.at_ with weak:=a.c},0,0⟩
 else if a.op=12 then⟨s.upd w.at_ {s.nd w.at_ with last:=a.c},0,0⟩
 else if a.op=16 then⟨s,0,(s.nd w.at_).kind⟩
 else⟨s,0,(s.nd w.at_).pairs.length⟩
noncomputable def dueA(s:Ideal)(a:Act):OutI:=
 match dueI s with
 |none=>⟨s.setR a.a ⟨0,0,0⟩,0,0⟩
 |some k=>⟨(s.upd ((k:Int)+1) {s.nd ((k:Int)+1)with last:=3}).setR a.a ⟨2,0,(k:Int)+1⟩,0,1⟩
noncomputable def doI(s:Ideal)(a:Act):OutI:=
 if a.op=1 then newI s a
 else if a.op=2 then⟨s.setR a.a ⟨1,a.n,0⟩,0,0⟩
 else if a.op=3 then⟨s.setR a.a ⟨0,0,0⟩,0,0⟩
 else if a.op=4 then⟨s.setR a.a (s.getR a.b),0,0⟩
 else if a.op≤8 then pairI s a
 else if a.op≤12 then cellI s a
 else if a.op=13 then⟨s,0,if s.getR a.a=s.getR a.b then 1 else 0⟩
 else if a.op=14 then⟨s,0,(s.getR a.a).kind⟩
 else if a.op=15 then(if(s.getR a.a).kind=1 then⟨s,0,(s.getR a.a).num⟩else⟨s,2,0⟩)
 else if a.op≤17 then cellI s a
 else if a.op=18 then⟨settleI s,0,duesI s⟩
 else if a.op=19 then dueA s a
 else if a.op=20 then⟨s,0,countI s⟩
 else if a.op=21 then⟨s,0,liveI s⟩
 else⟨s,0,0⟩
noncomputable def actI(s:Ideal)(a:Act):OutI:=if ActP a then doI s a else⟨s,1,0⟩
structure Sim (o:Out) (t:OutI):Prop where
 im:Im o.heap t.s
 code:o.code=t.code
 num:o.num=t.num
section
variable {H:Heap} {s:Ideal} {a:Act}
theorem sim_if{p q:Prop}[Decidable p][Decidable q]{A B:Out}{C D:OutI}(hpq:p↔q)(h1:p→Sim A C)(h2:¬p→Sim B D):Sim (if p then A else B) (if q then C else D):=by
 by_cases h:p
 ·rw[if_pos h,if_pos (hpq.1 h)];exact h1 h
 ·rw[if_neg h,if_neg (fun x=>h (hpq.2 x))];exact h2 h
theorem actP_r(hP:ActP a):0≤a.a∧a.a≤15:=⟨hP.2.2.1.1,by have:=hP.2.2.1.2;have:=aMost_le a.op;omega⟩
theorem Im.doNew(h:Im H s)(hP:ActP a)(ho:a.op=1)(hb:H.born<1000000000):Sim (doNew H a) (newI s a):=by
 obtain⟨_,_,_,a2,a3⟩:=hP
 rw[ho]at a2 a3
 simp[bMost,cMost]at a2 a3
 have hF:=h.fits (1+a.c)
 have hL:=h.fits_live (1+a.c)
 unfold E.doNew newI
 rw[if_neg (by omega)]
 refine sim_if hL (fun c=>⟨?_,rfl,rfl⟩) (fun c=>⟨hF,rfl,rfl⟩)
 have fb:=hF.born
 have hb2:=h.born
 have:=hF.new (r:=a.a.toNat) (n:=a.c.toNat) (kind:=a.b) (by omega) a2 (by omega) (by omega)
 refine Im.pace (H:=(H.fitsH (1+a.c)).newH a.a.toNat a.b a.c.toNat) ?_ _
 have e:∀x:Ideal,∀w,x.setR ((a.a.toNat:Nat):Int) w=x.setR a.a w:=fun x w=>by unfold Ideal.setR;rw[Int.toNat_natCast]
 rw[e]at this
 exact this
theorem Im.ndc(h:Im H s){i:Nat}(hn:ndI s (H.getC i).born=some ⟨(H.getC i).kind,(H.getC i).weak,(H.getC i).last,(H.getC i).pairs.map H.ap⟩):s.nd (H.getC i).born=⟨(H.getC i).kind,(H.getC i).weak,(H.getC i).last,(H.getC i).pairs.map H.ap⟩:=nd_of hn
theorem Im.doPair(h:Im H s)(ha:0≤a.a∧a.a≤15)(hb:0≤a.b∧a.b≤15):Sim (doPair H a) (pairI s a):=by
 have hS:=doPair_sound h.ok ha hb
 unfold E.doPair at hS⊢
 unfold pairI
 have hx:0≤(if a.op=5∨a.op=6 then a.b else a.a)∧(if a.op=5∨a.op=6 then a.b else a.a)≤15:=by split<;>assumption
 have hkk:=h.kind hx.1 hx.2
 have hrc:=h.regc hx.1 hx.2
 generalize H.getR (if a.op=5∨a.op=6 then a.b else a.a)=w at*
 generalize s.getR (if a.op=5∨a.op=6 then a.b else a.a)=v at*
 simp only at hS⊢
 by_cases hk:w.kind=2
 ·rw[if_neg (fun e=>e hk)]at hS⊢
  rw[if_neg (fun e=>e (by rw[hkk];exact hk))]
  obtain⟨i,hi,hlt,hs,hd,rfl,hnd⟩:=hrc hk
  rw[hi]at hS⊢
  simp only
  rw[h.ndc hnd]
  simp only
  rw[List.getElem?_map]
  cases hp:(H.getC i).pairs[a.c.toNat]? with
  |none=>exact⟨h,rfl,rfl⟩
  |some p=>
   rw[hp]at hS
   simp only[Option.map_some]at hS⊢
   obtain⟨p1,p2,g⟩:=h.ok.r4.pairs i _ (get_at hlt) _ p hp
   obtain⟨g1,g2⟩:=g hd
   obtain⟨s1,s2⟩:=getR_ok h.ok hb.1 hb.2
   obtain⟨q1,q2⟩:=shadeW_ok s1 (fun hk=>(s2 hk).2.2.1)
   have hsh:=h.shade s1 (q1.sound h.ok)
   have hc:=q1.cell i
   have hue:=hue_shadeW (H:=H) s1
   have hap:(H.shadeW (H.getR a.b)).ap=H.ap:=by funext p;unfold Heap.ap;rw[hue.aw]
   have hdS:¬Doomed (H.shadeW (H.getR a.b)) i:=fun hx=>by
    by_cases hm:Marking H
    ·have:Marking (H.shadeW (H.getR a.b)):=shade_marks.2 hm
     have:=hx.1;unfold Marking at*;omega
    ·have:H.shadeW (H.getR a.b)=H:=by
      unfold Heap.shadeW Heap.shadeH
      split
      ·rw[if_neg (fun x=>hm x.1)]
      ·rfl
     rw[this]at hx;exact hd hx
   have hpr:((H.shadeW (H.getR a.b)).getC i).pairs=(H.getC i).pairs:=hc.2.1
   --what is written
   have put:∀q:Pair,Sound ((H.shadeW (H.getR a.b)).putP i a.c.toNat q)→Im ((H.shadeW (H.getR a.b)).putP i a.c.toNat q) (s.upd (H.getC i).born ⟨(H.getC i).kind,(H.getC i).weak,(H.getC i).last,((H.getC i).pairs.map H.ap).set a.c.toNat (H.ap q)⟩):=fun q hq=>by
    have:=hsh.put (i:=i) (d:={(H.shadeW (H.getR a.b)).getC i with pairs:=((H.shadeW (H.getR a.b)).getC i).pairs.set a.c.toNat q}) (by rw[q1.len];exact hlt) (by rw[hc.1];exact hs) hdS hq rfl ⟨by show((H.shadeW (H.getR a.b)).getC i).state=1;rw[hc.1];exact hs,rfl,rfl⟩ rfl rfl rfl rfl rfl
    rw[hap]at this
    have he:=hue.cell i
    rw[he]at this
    simp only[Cell.col,List.map_set]at this
    exact this
   refine sim_if Iff.rfl (fun ho=>?_) (fun h5=>?_)
   ·rw[if_pos ho]at hS
    obtain⟨x,y⟩:=lead_well h.ok p1 g1
    have hi:=h.setR (r:=a.a) x y
    rw[lead_lead (fun hk=>(y (lead_kind.2 hk)).elim (fun z=>z.1) (fun z=>z.2.elim))]at hi
    exact⟨hi,rfl,rfl⟩
   rw[if_neg h5]at hS
   refine sim_if Iff.rfl (fun ho=>?_) (fun h6=>?_)
   ·obtain⟨x,y⟩:=lead_well h.ok p2 g2
    have hi:=h.setR (r:=a.a) x y
    rw[lead_lead (fun hk=>(y (lead_kind.2 hk)).elim (fun z=>z.1) (fun z=>z.2.elim))]at hi
    exact⟨hi,rfl,rfl⟩
   rw[if_neg h6]at hS
   have er:=h.reg hb.1 hb.2
   refine sim_if Iff.rfl (fun ho=>?_) (fun h7=>?_)
   ·rw[if_pos ho]at hS
    refine⟨?_,rfl,rfl⟩
    have:=put _ hS
    rw[er]
    exact this
   ·rw[if_neg h7]at hS
    refine⟨?_,rfl,rfl⟩
    have:=put _ hS
    rw[er]
    exact this
 ·rw[if_pos hk,if_pos (by rw[hkk];exact hk)]
  exact⟨h,rfl,rfl⟩
theorem cutH_as{i n:Nat}(hi:i<H.cells.length)(h:¬n<(H.getC i).pairs.length):H.cells=H.cells.set i {H.getC i with pairs:=(H.getC i).pairs.take n}:=by
 rw[List.take_of_length_le (by omega)]
 refine List.ext_getElem? fun j=>?_
 rw[List.getElem?_set]
 split
 ·rename_i e;subst e;exact get_at hi
 ·rfl
theorem Im.doCell(h:Im H s)(hP:ActP a)(hr:0≤a.a∧a.a≤15):Sim (doCell H a) (cellI s a):=by
 have hS:=doCell_sound h.ok hP hr
 obtain⟨_,_,_,_,a3⟩:=hP
 unfold E.doCell at hS⊢
 unfold cellI
 have hkk:=h.kind hr.1 hr.2
 have hrc:=h.regc hr.1 hr.2
 simp only at hS⊢
 by_cases hk:(H.getR a.a).kind=2
 ·rw[if_neg (fun e=>e hk)]at hS⊢
  rw[if_neg (show ¬((s.getR a.a).kind≠2)from fun e=>e (by rw[hkk];exact hk))]
  obtain⟨i,hi,hlt,hs,hd,hv,hnd⟩:=hrc hk
  rw[hi]at hS⊢
  rw[hv]
  simp only[Int.toNat_natCast]at hS⊢
  rw[h.ndc hnd]
  have put:∀(K:Heap) (d:Cell),Sound K→K.cells=H.cells.set i d→d.state=1→d.born=(H.getC i).born→d.color=(H.getC i).color→K.regs=H.regs→K.phase=H.phase→K.hand=H.hand→K.room=H.room→K.born=H.born→Im K (s.upd (H.getC i).born ⟨d.kind,d.weak,d.last,d.pairs.map H.ap⟩):=
   fun K d k1 k2 k3 k4 k5 k6 k7 k8 k9 k10=>h.put hlt hs hd k1 k2 ⟨k3,k4,k5⟩ k6 k7 k8 k9 k10
  refine sim_if Iff.rfl (fun ho=>?_) (fun h9=>?_)
  ·rw[if_pos ho]at hS
   unfold E.doGrow at hS⊢
   rw[hi]at hS⊢
   refine sim_if (by rw[List.length_map]) (fun c=>⟨h,rfl,rfl⟩) (fun c1=>?_)
   rw[if_neg c1]at hS
   have hF:=h.fits a.c
   have hL:=h.fits_live a.c
   obtain⟨f1,f2,f3,f4,f5,f6,f7⟩:=fits_ok h.ok a.c
   refine sim_if hL (fun c=>⟨?_,rfl,rfl⟩) (fun c=>⟨hF,rfl,rfl⟩)
   obtain⟨g1,g2⟩:=reg_len h.ok f1 f2 f3 hr.1 hr.2 hk
   rw[hi]at g2
   generalize H.fitsH a.c=F at*
   obtain⟨j,hj,jlt,js,jd,jv,jnd⟩:=hF.regc hr.1 hr.2 g1
   rw[hv]at jv
   have hbb:(F.getC j).born=(H.getC i).born:=by simpa using jv.symm
   rw[hbb,hnd]at jnd
   rw[hj]at g2⊢
   rw[Int.toNat_natCast]
   refine Im.pace ?_ _
   have c3:cMost 9=200:=by simp[cMost]
   rw[ho,c3]at a3
   have:=hF.put (K:=F.growC j a.c.toNat) (i:=j) (d:={F.getC j with pairs:=(F.getC j).pairs++List.replicate a.c.toNat Pair.no}) jlt js jd (grow_sound f1 jlt js (by omega) (by omega)) rfl ⟨js,rfl,rfl⟩ rfl rfl rfl rfl rfl
   rw[hbb]at this
   simp only[List.map_append,rep_no]at this
   have e:=Option.some.inj jnd
   simp only[Nd.mk.injEq]at e
   rw[e.1,e.2.1,e.2.2.1,e.2.2.2]
   exact this
  rw[if_neg h9]at hS
  refine sim_if Iff.rfl (fun ho=>?_) (fun h10=>?_)
  ·rw[if_pos ho]at hS
   refine⟨?_,rfl,rfl⟩
   simp only at hS⊢
   have key:∀K:Heap,Sound K→K=H.cutH i a.c.toNat→Im K (s.upd (H.getC i).born ⟨(H.getC i).kind,(H.getC i).weak,(H.getC i).last,((H.getC i).pairs.map H.ap).take a.c.toNat⟩):=by
    intro K hK e
    rw[←List.map_take]
    unfold Heap.cutH at e
    split at e
    ·subst e
     exact put _ {H.getC i with pairs:=(H.getC i).pairs.take a.c.toNat} hK rfl hs rfl rfl rfl rfl rfl rfl rfl
    ·rename_i hn
     subst e
     exact put _ {K.getC i with pairs:=(K.getC i).pairs.take a.c.toNat} hK (cutH_as hlt hn) hs rfl rfl rfl rfl rfl rfl rfl
   exact key _ hS rfl
  rw[if_neg h10]at hS
  refine sim_if Iff.rfl (fun ho=>?_) (fun h11=>?_)
  ·rw[if_pos ho]at hS
   exact⟨put _ {H.getC i with weak:=a.c} hS rfl hs rfl rfl rfl rfl rfl rfl rfl,rfl,rfl⟩
  rw[if_neg h11]at hS
  refine sim_if Iff.rfl (fun ho=>?_) (fun h12=>?_)
  ·rw[if_pos ho]at hS
   refine⟨?_,rfl,rfl⟩
   by_cases hc:a.c=1
   ·rw[if_pos hc]at hS⊢
    obtain⟨r1,r2⟩:=getR_ok h.ok hr.1 hr.2
    obtain⟨q1,q2⟩:=shadeW_ok r1 (fun hk=>(r2 hk).2.2.1)
    have hsh:=h.shade r1 (q1.sound h.ok)
    have hue:=hue_shadeW (H:=H) r1
    have hap:(H.shadeW (H.getR a.a)).ap=H.ap:=by funext p;unfold Heap.ap;rw[hue.aw]
    have hx:=(q1.sound h.ok).r4.regs (H.getR a.a) (by rw[q1.regs];exact(getR_mem h.ok.r1 hr.1 hr.2).2)
    have hdS:¬Doomed (H.shadeW (H.getR a.a)) i:=fun hdd=>by
     rcases hx.2 hk with x|x
     ·rw[hi]at x;exact x.2 hdd
     ·exact x.2.elim
    have:=hsh.put (i:=i) (d:={(H.shadeW (H.getR a.a)).getC i with last:=a.c}) (by rw[q1.len];exact hlt) (by rw[(q1.cell i).1];exact hs) hdS hS rfl ⟨by show((H.shadeW (H.getR a.a)).getC i).state=1;rw[(q1.cell i).1];exact hs,rfl,rfl⟩ rfl rfl rfl rfl rfl
    rw[hap]at this
    have he:=hue.cell i
    rw[he]at this
    exact this
   ·rw[if_neg hc]at hS⊢
    exact put _ {H.getC i with last:=a.c} hS rfl hs rfl rfl rfl rfl rfl rfl rfl
  refine sim_if Iff.rfl (fun ho=>⟨h,rfl,rfl⟩) (fun h16=>⟨h,rfl,?_⟩)
  simp only[List.length_map]
 ·rw[if_pos hk,if_pos (by rw[hkk];exact hk)]
  exact⟨h,rfl,rfl⟩
theorem Im.doDue(h:Im H s)(hr:0≤a.a∧a.a≤15):Sim (doDue H a) (dueA s a):=by
 have hS:=doDue_sound h.ok hr
 unfold E.doDue at hS⊢
 unfold dueA
 cases hd:dueI s with
 |none=>
  have:=h.due_none hd
  rw[if_pos this]
  have hi:=h.setR (r:=a.a) (no_formed H).1 (no_formed H).2
  have e:H.aw ⟨0,0,0⟩=⟨0,0,0⟩:=by unfold Heap.aw;rw[if_neg (by show ¬(0:Int)=2;omega)]
  rw[e]at hi
  exact⟨hi,rfl,rfl⟩
 |some k=>
  obtain⟨i,e1,e2,e3,e4,e5⟩:=h.due_some hd
  rw[e1,Int.toNat_natCast,if_neg (by omega)]at hS⊢
  refine⟨?_,rfl,rfl⟩
  simp only at hS⊢
  have nb:=h.node _ _ (node_at (get_at e2) e3 e4)
  have hp:Sound (H.putL i 3):=putL_sound h.ok e2 e3 (by omega) (fun hx=>by omega)
  have hput:=h.put (K:=H.putL i 3) (d:={H.getC i with last:=3}) e2 e3 e4 hp rfl ⟨e3,rfl,rfl⟩ rfl rfl rfl rfl rfl
  rw[e5]at hput nb
  rw[nd_of nb]
  have g:=put_getC (K:=H.putL i 3) e2 (d:={H.getC i with last:=3}) rfl (i:Int)
  rw[if_pos (by simp)]at g
  have hw:Formed (H.putL i 3) ⟨2,0,i⟩:=.inr (.inr ⟨rfl,rfl,by show(0:Int)≤i;omega,by show(i:Int)<((H.cells.set i _).length:Int);rw[List.length_set];omega⟩)
  have hl:LeadsWell (H.putL i 3) ⟨2,0,i⟩ False:=fun _=>.inl ⟨by show((H.putL i 3).getC i).state=1;rw[g];exact e3,fun hx=>by
   have hx:Doomed (H.putL i 3) i:=hx
   refine e4 ⟨hx.1,e3,?_,hx.2.2.2⟩
   have:=hx.2.2.1
   rw[g]at this
   exact this⟩
  have hi:=hput.setR (r:=a.a) hw hl
  have e:(H.putL i 3).aw ⟨2,0,i⟩=⟨2,0,(k:Int)+1⟩:=by
   unfold Heap.aw
   rw[if_pos rfl,lead_id (fun _=>by show((H.putL i 3).getC i).state=1;rw[g];exact e3)]
   show(⟨2,0,((H.putL i 3).getC i).born⟩:Word)=_
   rw[g,←e5]
  rw[e]at hi
  exact hi
theorem Im.same_reg(h:Im H s){r q:Int}(h0:0≤r)(h1:r≤15)(k0:0≤q)(k1:q≤15):H.getR r=H.getR q↔s.getR r=s.getR q:=by
 constructor
 ·intro e;rw[h.reg h0 h1,h.reg k0 k1,e]
 ·intro e
  have kr:=h.kind h0 h1
  have kq:=h.kind k0 k1
  by_cases hk:(H.getR r).kind=2
  ·have hk2:(H.getR q).kind=2:=by rw[←kq,←e,kr];exact hk
   obtain⟨i,i1,i2,i3,i4,i5,i6⟩:=h.regc h0 h1 hk
   obtain⟨j,j1,j2,j3,j4,j5,j6⟩:=h.regc k0 k1 hk2
   rw[i5,j5]at e
   simp only[Word.mk.injEq,true_and]at e
   obtain⟨rfl,_⟩:=born_one h.ok.r2 (get_at i2) (get_at j2) i3 j3 e
   have f1:=(getR_ok h.ok h0 h1).1
   have f2:=(getR_ok h.ok k0 k1).1
   have n1:(H.getR r).num=0:=by rcases f1 with x|x|x<;>omega
   have n2:(H.getR q).num=0:=by rcases f2 with x|x|x<;>omega
   generalize H.getR r=u at*
   generalize H.getR q=v at*
   obtain⟨u1,u2,u3⟩:=u
   obtain⟨v1,v2,v3⟩:=v
   simp only at hk hk2 i1 j1 n1 n2
   subst hk hk2 i1 j1 n1 n2
   rfl
  ·have hk2:(H.getR q).kind≠2:=by rw[←kq,←e,kr];exact hk
   rw[h.regn h0 h1 hk,h.regn k0 k1 hk2]at e
   exact e
theorem Im.act(h:Im H s)(hb:H.born<1000000000):Sim (actA H a) (actI s a):=by
 unfold actA actI
 refine sim_if Iff.rfl (fun hP=>?_) (fun _=>⟨h,rfl,rfl⟩)
 have hr:=actP_r hP
 have hP':=hP
 obtain⟨a0,_,a1,a2,a3⟩:=hP'
 have aw0:H.aw ⟨0,0,0⟩=⟨0,0,0⟩:=by unfold Heap.aw;rw[if_neg (by show ¬(0:Int)=2;omega)]
 have hbm:(4≤a.op∧a.op≤8∨a.op=13)→0≤a.b∧a.b≤15:=fun ho=>by
  unfold bMost at a2
  rw[if_neg (by omega),if_pos (by omega)]at a2
  exact a2
 unfold doA doI
 refine sim_if Iff.rfl (fun ho=>h.doNew hP ho hb) (fun h1=>?_)
 refine sim_if Iff.rfl (fun ho=>?_) (fun h2=>?_)
 ·have:=h.setR (r:=a.a) (num_formed H a.n).1 (num_formed H a.n).2
  have e:H.aw ⟨1,a.n,0⟩=⟨1,a.n,0⟩:=by unfold Heap.aw;rw[if_neg (by show ¬(1:Int)=2;omega)]
  rw[e]at this
  exact⟨this,rfl,rfl⟩
 refine sim_if Iff.rfl (fun ho=>?_) (fun h3=>?_)
 ·have:=h.setR (r:=a.a) (no_formed H).1 (no_formed H).2
  rw[aw0]at this
  exact⟨this,rfl,rfl⟩
 refine sim_if Iff.rfl (fun ho=>?_) (fun h4=>?_)
 ·have hb2:=hbm (by omega)
  have:=h.setR (r:=a.a) (getR_ok h.ok hb2.1 hb2.2).1 (reg_leads h.ok hb2.1 hb2.2)
  rw[←h.reg hb2.1 hb2.2]at this
  exact⟨this,rfl,rfl⟩
 refine sim_if Iff.rfl (fun ho=>h.doPair hr (hbm (by omega))) (fun h5=>?_)
 refine sim_if Iff.rfl (fun ho=>h.doCell hP hr) (fun h6=>?_)
 refine sim_if Iff.rfl (fun ho=>⟨h,rfl,?_⟩) (fun h7=>?_)
 ·have hb2:=hbm (by omega)
  have e:=h.same_reg hr.1 hr.2 hb2.1 hb2.2
  by_cases c:H.getR a.a=H.getR a.b
  ·rw[if_pos c,if_pos (e.1 c)]
  ·rw[if_neg c,if_neg (fun x=>c (e.2 x))]
 refine sim_if Iff.rfl (fun ho=>⟨h,rfl,(h.kind hr.1 hr.2).symm⟩) (fun h8=>?_)
 refine sim_if Iff.rfl (fun ho=>?_) (fun h9=>?_)
 ·refine sim_if (by rw[h.kind hr.1 hr.2]) (fun c=>⟨h,rfl,?_⟩) (fun c=>⟨h,rfl,rfl⟩)
  rw[h.regn hr.1 hr.2 (by omega)]
 refine sim_if Iff.rfl (fun ho=>h.doCell hP hr) (fun h10=>?_)
 refine sim_if Iff.rfl (fun ho=>⟨h.settle,rfl,h.dues⟩) (fun h11=>?_)
 refine sim_if Iff.rfl (fun ho=>h.doDue hr) (fun h12=>?_)
 refine sim_if Iff.rfl (fun ho=>⟨h,rfl,h.counted⟩) (fun h13=>?_)
 refine sim_if Iff.rfl (fun ho=>⟨h,rfl,h.live⟩) (fun h14=>?_)
 by_cases o22:a.op=22
 ·rw[if_pos o22];exact⟨h.step _,rfl,rfl⟩
 rw[if_neg o22]
 by_cases o23:a.op=23
 ·rw[if_pos o23]
  rw[o23]at a2 a3
  simp[bMost,cMost]at a2 a3
  exact⟨h.same (pace_sound h.ok a2 a3) rfl (fun b n=>Iff.rfl) rfl rfl,rfl,rfl⟩
 rw[if_neg o23]
 exact⟨h.round,rfl,rfl⟩
end
noncomputable def runI:Ideal→List Act→Ideal
 |s,[]=>s
 |s,b::r=>runI (actI s b).s r
noncomputable def ansI:Ideal→List Act→List (Int×Int)
 |_,[]=>[]
 |s,b::r=>((actI s b).code,(actI s b).num)::ansI (actI s b).s r
theorem runI_app:∀(l:List Act) (s:Ideal) (r:List Act),runI s (l++r)=runI (runI s l) r
 |[],_,_=>rfl
 |_::l,s,r=>runI_app l _ r
theorem ansI_app:∀(l:List Act) (s:Ideal) (r:List Act),ansI s (l++r)=ansI s l++ansI (runI s l) r
 |[],_,_=>rfl
 |b::l,s,r=>by
  show _::ansI _ (l++r)=_
  rw[ansI_app l];rfl
theorem ansI_len:∀(l:List Act) (s:Ideal),(ansI s l).length=l.length
 |[],_=>rfl
 |b::r,s=>by simp[ansI,ansI_len r]
theorem out_s{p:Prop}[Decidable p]{A B:OutI}{n:Nat}(h1:A.s.things.length≤n)(h2:B.s.things.length≤n):(if p then A else B).s.things.length≤n:=by split<;>assumption
theorem actI_len(s:Ideal)(a:Act):(actI s a).s.things.length≤s.things.length+1:=by
 have up:∀b n,(s.upd b n).things.length≤s.things.length+1:=fun b n=>by
  show(s.things.set _ _).length≤_
  rw[List.length_set];omega
 have hs:s.things.length≤s.things.length+1:=Nat.le_succ _
 have hp:(pairI s a).s.things.length≤s.things.length+1:=by
  unfold pairI
  refine out_s hs ?_
  split
  ·exact hs
  ·exact out_s hs (out_s hs (out_s (up _ _) (up _ _)))
 have hc:(cellI s a).s.things.length≤s.things.length+1:=by
  unfold cellI
  exact out_s hs (out_s (out_s hs (out_s (up _ _) hs)) (out_s (up _ _) (out_s (up _ _) (out_s (up _ _) (out_s hs hs)))))
 have hd:(dueA s a).s.things.length≤s.things.length+1:=by
  unfold dueA
  split
  ·exact hs
  ·exact up _ _
 unfold actI
 refine out_s ?_ hs
 unfold doI
 refine out_s ?_ (out_s hs (out_s hs (out_s hs (out_s hp (out_s hc (out_s hs (out_s hs (out_s (out_s hs hs) (out_s hc (out_s ?_ (out_s hd (out_s hs (out_s hs hs)))))))))))))
 ·unfold newI
  refine out_s ?_ hs
  show(s.things++[_]).length≤_
  simp
 ·show(s.things.mapIdx _).length≤_
  rw[List.length_mapIdx];exact hs
theorem Im.run:∀(l:List Act) {H:Heap} {s:Ideal},Im H s→s.things.length+l.length<1000000000→ansL H l=ansI s l∧Im (runH H l) (runI s l)
 |[],_,_,h,_=>⟨rfl,h⟩
 |b::r,H,s,h,hn=>by
  simp only[List.length_cons]at hn
  obtain⟨a1,a2,a3⟩:=h.act (a:=b) (by rw[h.born];omega)
  have:=actI_len s b
  obtain⟨b1,b2⟩:=Im.run r a1 (by omega)
  refine⟨?_,b2⟩
  show _::ansL _ r=_::ansI _ r
  rw[a2,a3,b1]
theorem nw_im{H:Heap}(h:Sound H)(h0:H.cells=[])(hb:H.born=0)(hr:H.regs=List.replicate 16 ⟨0,0,0⟩):Im H ⟨H.room,List.replicate 16 ⟨0,0,0⟩,[]⟩:=
 ⟨h,by
   have e:H.aw ⟨0,0,0⟩=⟨0,0,0⟩:=by unfold Heap.aw;rw[if_neg (by show ¬(0:Int)=2;omega)]
   rw[hr,List.map_replicate,e],fun b n ⟨i,c,hc,_⟩=>(by rw[h0]at hc;simp at hc),fun b n hb=>(by unfold ndI at hb;split at hb<;>simp at hb),rfl,by simpa using hb⟩
def nums(op:Int):List Act→List (Int×Int)→List Int
 |a::r,x::t=>if a.op=op then x.2::nums op r t else nums op r t
 |_,_=>[]
theorem nums_app(op:Int):∀(a:List Act) (x:List (Int×Int)) {b:List Act} {y:List (Int×Int)},a.length=x.length→nums op (a++b) (x++y)=nums op a x++nums op b y
 |[],[],_,_,_=>rfl
 |c::a,z::x,b,y,h=>by
  have ih:=nums_app op a x (b:=b) (y:=y) (by simpa using h)
  show(if c.op=op then z.2::nums op (a++b) (x++y)else nums op (a++b) (x++y))=(if c.op=op then z.2::nums op a x else nums op a x)++nums op b y
  rw[ih]
  split<;>rfl
theorem nums_no(op:Int):∀(a:List Act) (x:List (Int×Int)),(∀b,b∈a→b.op≠op)→nums op a x=[]
 |[],_,_=>rfl
 |c::a,[],_=>rfl
 |c::a,z::x,h=>by
  show(if c.op=op then _ else nums op a x)=[]
  rw[if_neg (h c (by simp)),nums_no op a x (fun b hb=>h b (by simp[hb]))]
theorem nums_run(op:Int)(s:Ideal)(l r:List Act):nums op (l++r) (ansI s (l++r))=nums op l (ansI s l)++nums op r (ansI (runI s l) r):=by
 rw[ansI_app,nums_app op _ _ (by rw[ansI_len])]
def totI(s:Ideal):Int:=(s.things.map fun n=>1+(n.pairs.length:Int)).sum
theorem sum_map_range(l:List Nd):((List.range l.length).map fun i:Nat=>1+((l.getD i Nd.none).pairs.length:Int))=l.map fun n=>1+(n.pairs.length:Int):=by
 refine List.ext_getElem (by simp) (fun i h1 h2=>?_)
 simp only[List.length_map]at h2
 rw[List.getElem_map,List.getElem_map,List.getElem_range,List.getD_eq_getElem?_getD,List.getElem?_eq_getElem h2]
 rfl
theorem sum_filter_le(f:Nat→Int)(hf:∀i,0≤f i)(p:Nat→Bool):∀l:List Nat,((l.filter p).map f).sum≤(l.map f).sum
 |[]=>by simp
 |a::r=>by
  have ih:=sum_filter_le f hf p r
  have:=hf a
  by_cases h:p a=true
  ·rw[List.filter_cons_of_pos h];simp only[List.map_cons,List.sum_cons];omega
  ·rw[List.filter_cons_of_neg h];simp only[List.map_cons,List.sum_cons];omega
theorem posI_snd(s:Ideal)(Q:Int→Prop):(posI s Q).map Prod.snd=((List.range s.things.length).filter fun i:Nat=>decide (Q ((i:Int)+1))).map fun i:Nat=>1+((s.things.getD i Nd.none).pairs.length:Int):=by
 unfold posI
 rw[List.map_map];rfl
theorem posI_le(s:Ideal)(Q:Int→Prop):((posI s Q).map Prod.snd).sum≤totI s:=by
 rw[posI_snd]
 have:=sum_filter_le (fun i:Nat=>1+((s.things.getD i Nd.none).pairs.length:Int)) (fun i=>by omega) (fun i:Nat=>decide (Q ((i:Int)+1))) (List.range s.things.length)
 rw[sum_map_range]at this
 exact this
theorem posI_all{s:Ideal}{Q:Int→Prop}(h:∀b:Int,1≤b→b≤s.things.length→Q b):((posI s Q).map Prod.snd).sum=totI s:=by
 rw[posI_snd,List.filter_eq_self.2 (fun i hi=>by
  have:=List.mem_range.1 hi
  simpa using h ((i:Int)+1) (by omega) (by omega)),sum_map_range];rfl
theorem posI_eq{s:Ideal}{Q:Int→Prop}{u:List (Int×Int)}(hu:u.Nodup)(h:∀b n,(ndI s b=some n∧Q b)↔(b,1+(n.pairs.length:Int))∈u∧ndI s b=some n)(h2:∀x,x∈u→∃n,ndI s x.1=some n∧x.2=1+n.pairs.length):((posI s Q).map Prod.snd).sum=(u.map Prod.snd).sum:=by
 refine sum_same (posI_nodup s Q) hu (fun x=>?_) (fun x hx=>?_)
 ·rw[posI_mem]
  obtain⟨x1,x2⟩:=x
  constructor
  ·rintro⟨n,a,b,c⟩
   have:=((h x1 n).1 ⟨a,b⟩).1
   simp only at c
   rw[c];exact this
  ·intro hx
   obtain⟨n,a,b⟩:=h2 _ hx
   simp only at a b
   have:=((h x1 n).2 ⟨by rw[←b];exact hx,a⟩)
   exact⟨n,a,this.2,b⟩
 ·obtain⟨n,_,b⟩:=h2 x hx
  omega
abbrev W0:Word:=⟨0,0,0⟩
abbrev Wc(b:Int):Word:=⟨2,0,b⟩
abbrev rg(a b c d e f g:Word):List Word:=[a,b,c,d,e,f,g,W0,W0,W0,W0,W0,W0,W0,W0,W0]
theorem i_act{s:Ideal}{a:Act}(h:ActP a):actI s a=doI s a:=by unfold actI;rw[if_pos h]
theorem i_new{s:Ideal}{r k c:Int}(hP:ActP ⟨1,r,k,c,0⟩)(hl:totI s+(1+c)≤s.room):actI s ⟨1,r,k,c,0⟩=⟨(s.push ⟨k,0,0,List.replicate c.toNat Pair.no⟩).setR r ⟨2,0,s.things.length+1⟩,0,0⟩:=by
 rw[i_act hP]
 have:=posI_le s (ReachI s)
 unfold doI newI
 rw[if_pos rfl,if_pos (show liveI s+(1+c)≤s.room by unfold liveI;omega)]
theorem i_step{s:Ideal}{u:Int}(hP:ActP ⟨22,0,0,u,0⟩):actI s ⟨22,0,0,u,0⟩=⟨s,0,0⟩:=by
 rw[i_act hP];rfl
theorem i_settle{s:Ideal}:actI s ⟨18,0,0,0,0⟩=⟨settleI s,0,duesI s⟩:=by
 rw[i_act (by simp[ActP,aMost,bMost,cMost])];rfl
theorem i_count{s:Ideal}:actI s ⟨20,0,0,0,0⟩=⟨s,0,countI s⟩:=by
 rw[i_act (by simp[ActP,aMost,bMost,cMost])];rfl
theorem i_live{s:Ideal}:actI s ⟨21,0,0,0,0⟩=⟨s,0,liveI s⟩:=by
 rw[i_act (by simp[ActP,aMost,bMost,cMost])];rfl
theorem i_nil{s:Ideal}{r:Int}(hr:0≤r∧r≤15):actI s ⟨3,r,0,0,0⟩=⟨s.setR r W0,0,0⟩:=by
 rw[i_act (by simp[ActP,aMost,bMost,cMost];exact hr)];rfl
theorem i_copy{s:Ideal}{r q:Int}(hr:0≤r∧r≤15)(hq:0≤q∧q≤15):actI s ⟨4,r,q,0,0⟩=⟨s.setR r (s.getR q),0,0⟩:=by
 rw[i_act (by simp[ActP,aMost,bMost,cMost];exact⟨hr,hq⟩)];rfl
theorem i_setkey{s:Ideal}{r q b:Int}{i:Nat}{n:Nd}{p:Pair}(hr:0≤r∧r≤15)(hq:0≤q∧q≤15)(hi:i≤199)(hw:s.getR r=Wc b)(hn:ndI s b=some n)(hp:n.pairs[i]?=some p):
 actI s ⟨7,r,q,i,0⟩=⟨s.upd b {n with pairs:=n.pairs.set i ⟨s.getR q,p.val⟩},0,0⟩:=by
 rw[i_act (by simp[ActP,aMost,bMost,cMost];omega)]
 show pairI s _=_
 unfold pairI
 simp only[Int.reduceEq,or_self,if_false,if_true,hw,nd_of hn,Int.toNat_natCast,hp]
 rfl
theorem i_setval{s:Ideal}{r q b:Int}{i:Nat}{n:Nd}{p:Pair}(hr:0≤r∧r≤15)(hq:0≤q∧q≤15)(hi:i≤199)(hw:s.getR r=Wc b)(hn:ndI s b=some n)(hp:n.pairs[i]?=some p):
 actI s ⟨8,r,q,i,0⟩=⟨s.upd b {n with pairs:=n.pairs.set i ⟨p.key,s.getR q⟩},0,0⟩:=by
 rw[i_act (by simp[ActP,aMost,bMost,cMost];omega)]
 show pairI s _=_
 unfold pairI
 simp only[Int.reduceEq,or_self,if_false,if_true,hw,nd_of hn,Int.toNat_natCast,hp]
 rfl
theorem i_weak{s:Ideal}{r b c:Int}{n:Nd}(hr:0≤r∧r≤15)(hc:0≤c∧c≤3)(hw:s.getR r=Wc b)(hn:ndI s b=some n):actI s ⟨11,r,0,c,0⟩=⟨s.upd b {n with weak:=c},0,0⟩:=by
 rw[i_act (by simp[ActP,aMost,bMost,cMost];omega)]
 show cellI s _=_
 unfold cellI
 simp only[hw,nd_of hn]
 rfl
theorem i_size{s:Ideal}{r b:Int}{n:Nd}(hr:0≤r∧r≤15)(hw:s.getR r=Wc b)(hn:ndI s b=some n):actI s ⟨17,r,0,0,0⟩=⟨s,0,n.pairs.length⟩:=by
 rw[i_act (by simp[ActP,aMost,bMost,cMost];omega)]
 show cellI s _=_
 unfold cellI
 simp only[hw,nd_of hn]
 rfl
theorem valI1:ValI 1:=by unfold ValI;rfl
theorem keyI1:¬KeyI 1:=by unfold KeyI;decide
end Go.Proofs.YtpleoapljeffiaaDoor.E
set_option maxRecDepth 100000
namespace Go.Proofs.YtpleoapljeffiaaDoor.E
open Go
noncomputable def e9:Env:=⟨Tryd.prog,[33],37,[]⟩
abbrev zQ(a0:Nat)(a1:Nat)(a2:Nat)(a3:Int)(a4:Int)(a5:Int)(a6:Int):I:=⟨some a0,none,.call a1 [.tmp a2,.const (.int .i64 a3),.const (.int .i64 a4),.const (.int .i64 a5),.const (.int .i64 a6)]⟩
abbrev zx(a0:Nat)(a1:Nat)(a2:Nat)(a3:Int)(a4:Int)(a5:Int)(a6:Nat):I:=⟨some a0,none,.call a1 [.tmp a2,.const (.int .i64 a3),.const (.int .i64 a4),.const (.int .i64 a5),.tmp a6]⟩
abbrev qP(a0:Nat)(a1:Nat)(a2:Nat)(a3:Nat)(a4:Int):I:=⟨some a0,none,.call a1 [.tmp a2,.tmp a3,.const (.int .i64 a4)]⟩
abbrev qQ(a0:Nat)(a1:Nat)(a2:Nat)(a3:Nat)(a4:Nat):I:=⟨some a0,some (a1,true),.call a2 [.tmp a3,.tmp a4]⟩
noncomputable def c9:C:=
 .seq (.reg [zY 6 0 0]) (.seq (.reg [zY 7 0 0]) (.seq (.seq (.reg [z3 9 0,zC 10 9,zD 11 0]) (.block 0 (.loop (.seq (.reg [zN 12 11 10]) (.seq (.cond (.tmp 12) .skip (.exit 0)) (.seq (.block 1 (.seq (.reg [z3 13 11,z3 8 13]) (.seq (.reg [z3 14 0,z3 15 8,z9 16 5 14 15,z4 17 0 16,z5 18 1 17,z3 19 2,zi 20 18 19,z3 21 20,zF 22 21 8,zF 23 21 1,qC 24 21 23,qM 25 21 22 24,zK 26 21 25]) (.cond (.tmp
 26) (.reg [z3 27 7,z3 28 1,z3 29 8,z9 30 2 28 29,z4 31 1 30,z5 32 1 31,q8 33 1 1 0 0 1 32,q9 34 1 8 0 27 33,z3 7 34]) .skip)))) (.reg [zI 35 11 1,z3 11 35]))))))) (.seq (.reg [z3 36 7,z3 6 36]) .ret)))
theorem t9:Tryd.f9.body.bind (trC e9)=some c9:=by kernel_rfl
theorem r9:Tryd.f9.results.toList.mapM (trR Tryd.prog)=some [.tmp 6]:=by kernel_rfl
theorem fn9{args:List Value}{M:Mem}{post:Value→Mem→Prop}(hl:args.length≤37)(h:VC e9 c9 (fnQ [.tmp 6] post) (initS args 37) M):Fn Tryd.prog 9 args M post:=
 Fn.of' (E:=e9) Tryd.func9 t9 rfl r9 mixed hl h
noncomputable def e5:Env:=⟨Tryd.prog,[6,10],96,[(13,19),(18,7)]⟩
theorem r5:Tryd.f5.results.toList.mapM (trR Tryd.prog)=some [.tmp 2]:=by kernel_rfl
noncomputable def e3:Env:=⟨Tryd.prog,[5],58,[]⟩
noncomputable def c3:C:=
 .seq (.reg [zP 2]) (.seq (.seq (.reg [z3 9 0,zC 10 9,zz 11 10 1048576]) (.cond (.tmp 11) (.seq (.reg [qB 2]) .ret) .skip)) (.seq (.reg [z3 12 0,zd 13 6 12 0,⟨some 14,none,.bin .rem (.tmp 13) (.const (.int .i64 60))⟩,q4 15 1 14,z3 3 15]) (.seq (.reg [z3 16 3,z3 17 0,zd 18 6 17 1,⟨some 19,none,.bin .rem (.tmp 18) (.const (.int .i64 21))⟩,zL 20 7 16 19,z3 4 20]) (.seq (.reg [z3 21 4,⟨some 22,
 none,.call 8 [.const (.int .i64 1000),.tmp 21]⟩,⟨some 5,none,.alloc true [.bool false,.slice none 0 0,.int .i64 0,.int .i64 0,.int .i64 0,.slice none 0 0,.slice none 0 0,.int .i64 0,.int .i64 0,.int .i64 0,.slice none 0 0,.int .i64 0,.int .i64 0,.int .i64 0,.int .i64 0]⟩,z7 15 5 22]) (.seq (.reg [z3 23 4,z4 24 1 5,z5 25 1 24,qP 26 9 23 25 17,z3 6 26]) (.seq (.reg [z3 27 4,z4 28 1 5,z5 29 1 28,
 qP 30 9 27 29 20,z3 7 30]) (.seq (.reg [z3 31 4,z4 32 1 5,z5 33 1 32,qP 34 9 31 33 21,z3 8 34]) (.seq (.reg [z4 35 0 5,z5 36 1 35,z3 37 36,zF 38 37 6,zF 39 37 3,⟨some 40,some (37,true),.bslice false 2 1 [.int .i64 0,.int .i64 0] [(0,1,.tmp 39),(1,1,.const (.int .i64 0))]⟩,qQ 41 37 10 38 40,zK 42 37 41,z3 43 42,zF 44 43 7,zF 45 43 3,⟨some 46,some (43,true),.bin .mul (.const (.int .i64 2)) (.tmp
 45)⟩,⟨some 47,some (43,true),.bin .add (.tmp 46) (.const (.int .i64 2))⟩,zF 48 43 3,⟨some 49,some (43,true),.bin .add (.tmp 48) (.const (.int .i64 1))⟩,⟨some 50,some (43,true),.bslice false 2 1 [.int .i64 0,.int .i64 0] [(0,1,.tmp 47),(1,1,.tmp 49)]⟩,qQ 51 43 10 44 50,zK 52 43 51,z3 53 52,zF 54 53 8,⟨some 55,some (53,true),.bslice false 1 1 [.int .i64 0] [(0,1,.const (.int .i64 1))]⟩,qQ 56 53 10
 54 55,zK 57 53 56,z3 2 57]) .ret))))))))
theorem t3:Tryd.f3.body.bind (trC e3)=some c3:=by kernel_rfl
theorem r3:Tryd.f3.results.toList.mapM (trR Tryd.prog)=some [.tmp 2]:=by kernel_rfl
theorem fn3{args:List Value}{M:Mem}{post:Value→Mem→Prop}(hl:args.length≤58)(h:VC e3 c3 (fnQ [.tmp 2] post) (initS args 58) M):Fn Tryd.prog 3 args M post:=
 Fn.of' (E:=e3) Tryd.func3 t3 rfl r3 mixed hl h
noncomputable def e4:Env:=⟨Tryd.prog,[6],106,[]⟩
theorem r4:Tryd.f4.results.toList.mapM (trR Tryd.prog)=some [.tmp 2]:=by kernel_rfl
noncomputable def e7:Env:=⟨Tryd.prog,[],60,[]⟩
noncomputable def c7:C:=
 .seq (.reg [zY 4 0 0]) (.seq (.reg [zY 5 0 0]) (.seq (.reg [z3 7 5,z3 8 0,zx 9 14 7 1 0 0 8,z3 5 9]) (.seq (.reg [z3 10 5,zQ 11 14 10 11 0 0 1,z3 5 11]) (.seq (.reg [z3 12 5,zQ 13 14 12 1 1 0 0,z3 5 13]) (.seq (.reg [z3 14 5,zQ 15 14 14 4 3 1 0,z3 5 15]) (.seq (.seq (.reg [zD 6 0]) (.block 0 (.loop (.seq (.seq (.reg [z3 16 6,z3 17 0,zN 18 16 17]) (.cond (.tmp 18) .skip (.exit 0))) (.seq
 (.block 1 (.seq (.reg [z3 21 5,z3 22 6,zx 23 14 21 7 0 1 22,z3 5 23]) (.seq (.reg [z3 24 5,zQ 25 14 24 1 2 0 0,z3 5 25]) (.seq (.reg [z3 26 5,z3 27 6,zx 28 14 26 8 0 2 27,z3 5 28]) (.seq (.reg [z3 29 5,z3 30 1,zx 31 14 29 22 0 0 30,z3 5 31]) (.reg [z3 32 5,zQ 33 14 32 4 1 2 0,z3 5 33])))))) (.reg [z3 19 6,zI 20 19 1,z3 6 20])))))) (.seq (.reg [z3 34 5,zQ 35 14 34 3 1 0 0,z3 5 35]) (.seq
 (.reg [z3 36 5,zQ 37 14 36 3 2 0 0,z3 5 37]) (.seq (.reg [z3 38 5,zQ 39 14 38 18 0 0 0,z3 5 39]) (.seq (.reg [z3 40 5,z3 41 1,zx 42 14 40 22 0 0 41,z3 5 42]) (.seq (.reg [z3 43 5,zQ 44 14 43 17 0 0 0,z3 5 44]) (.seq (.reg [z3 45 5,zQ 46 14 45 20 0 0 0,z3 5 46]) (.seq (.reg [z3 47 5,zQ 48 14 47 3 3 0 0,z3 5 48]) (.seq (.reg [z3 49 5,zQ 50 14 49 20 0 0 0,z3 5 50]) (.seq (.reg [z3 51 5,zQ 52
 14 51 18 0 0 0,z3 5 52]) (.seq (.reg [z3 53 5,z3 54 1,zx 55 14 53 22 0 0 54,z3 5 55]) (.seq (.reg [z3 56 5,zQ 57 14 56 17 0 0 0,z3 5 57]) (.seq (.reg [z3 58 5,zQ 59 14 58 21 0 0 0,z3 4 59]) .ret))))))))))))))))))
theorem t7:Tryd.f7.body.bind (trC e7)=some c7:=by kernel_rfl
theorem r7:Tryd.f7.results.toList.mapM (trR Tryd.prog)=some [.tmp 4]:=by kernel_rfl
theorem fn7{args:List Value}{M:Mem}{post:Value→Mem→Prop}(hl:args.length≤60)(h:VC e7 c7 (fnQ [.tmp 4] post) (initS args 60) M):Fn Tryd.prog 7 args M post:=
 Fn.of' (E:=e7) Tryd.func7 t7 rfl r7 mixed hl h
noncomputable def e14:Env:=⟨Tryd.prog,[17],19,[]⟩
noncomputable def c14:C:=
 .seq (.reg [zY 10 0 0]) (.seq (.reg [z3 11 0,z3 12 1,z3 13 2,z3 14 3,z3 15 4,⟨some 16,none,.build [.int .i64 0,.int .i64 0,.int .i64 0,.int .i64 0,.int .i64 0] [(0,1,.tmp 12),(1,1,.tmp 13),(2,1,.tmp 14),(3,1,.tmp 15)]⟩,⟨some 17,none,.bslice true 1 5 [.int .i64 0,.int .i64 0,.int .i64 0,.int .i64 0,.int .i64 0] [(0,5,.tmp 16)]⟩,⟨some 18,none,.app 5 40 [.int .i64 0,.int .i64 0,.int .i64 0,.int
 .i64 0,.int .i64 0] (.tmp 11) (.tmp 17)⟩,z3 10 18]) .ret)
theorem t14:Tryd.f14.body.bind (trC e14)=some c14:=by kernel_rfl
theorem r14:Tryd.f14.results.toList.mapM (trR Tryd.prog)=some [.tmp 10]:=by kernel_rfl
theorem fn14{args:List Value}{M:Mem}{post:Value→Mem→Prop}(hl:args.length≤19)(h:VC e14 c14 (fnQ [.tmp 10] post) (initS args 19) M):Fn Tryd.prog 14 args M post:=
 Fn.of' (E:=e14) Tryd.func14 t14 rfl r14 mixed hl h
end Go.Proofs.YtpleoapljeffiaaDoor.E
set_option maxHeartbeats 8000000
namespace Go.Proofs.YtpleoapljeffiaaDoor.E
open Go
open Classical
theorem l6add_a{op p q r:Int}{l:List Act}{sd:D}(hl:l.length≤100000):FnA Tryd.prog 14 [.slice sd.a l.length sd.cap,.int .i64 op,.int .i64 p,.int .i64 q,.int .i64 r] [slA 5 av sd l] (fun v As=>∃e:D,v=.slice e.a (l++[(⟨op,p,q,r,0⟩:Act)]).length e.cap∧As=[slA 5 av e (l++[⟨op,p,q,r,0⟩])]):=by
 refine fnA_of (fun h=>fn14 (by simp) h) ?_
 repeat' (first
  |(refine k_L ?_;first|refine a_p rfl ?_|(refine k_bl ?_;refine a_bl rfl ?_))
  |refine a_n ?_
  |(refine k_V ?_;first|refine v_seq ?_|refine v_reg ?_))
 refine g_ap (xs:=l) (e:=sd) (⟨op,p,q,r,0⟩:Act) av_len5 rfl rfl rfl (by omega) (hb:=by omega) (fun e'=>?_)
 repeat' (first
  |(refine k_L ?_;refine a_p rfl ?_)
  |refine a_n ?_
  |(refine k_V ?_;refine v_ret ?_))
 exact fa_r (As':=[slA 5 av e' (l++[⟨op,p,q,r,0⟩])]) (fun _ _=>rfl) (Pm.ent pmt) ⟨e',by rw[List.length_append]<;>rfl,rfl⟩
theorem nums_take{op:Int}{acts:List Act}{ans:List (Int×Int)}{i:Nat}{b:Act}{r:Int×Int}(ga:acts[i]?=some b)(gr:ans[i]?=some r):nums op (acts.take (i+1)) (ans.take (i+1))=nums op (acts.take i) (ans.take i)++(if b.op=op then[r.2]else[]):=by
 have h1:=(List.getElem?_eq_some_iff.1 ga).1
 have h2:=(List.getElem?_eq_some_iff.1 gr).1
 rw[List.take_add_one,List.take_add_one,ga,gr,nums_app _ _ _ (by rw[List.length_take,List.length_take];omega)]
 rfl
theorem nums_le(op:Int):∀(a:List Act) (x:List (Int×Int)),(nums op a x).length≤a.length
 |[],_=>by simp[nums]
 |c::a,[]=>by simp[nums]
 |c::a,z::x=>by
  have:=nums_le op a x
  show(if c.op=op then z.2::nums op a x else nums op a x).length≤_
  split<;>simp<;>omega
theorem wNums_a{acts:List Act}{ans:List (Int×Int)}{d e:D}{op:Int}(hl:acts.length=ans.length)(hb:acts.length≤1000):FnA Tryd.prog 9 [.slice d.a acts.length d.cap,.slice e.a ans.length e.cap,.int .i64 op] [slA 5 av d acts,slA 2 anv e ans] (fun v As=>∃g:D,v=.slice g.a (nums op acts ans).length g.cap∧As=[slA 1 iv g (nums op acts ans),slA 5 av d acts,slA 2 anv e ans]):=by
 refine fnA_of (fun h=>fn9 (by simp) h) ?_
 repeat' (first
  |(refine k_L ?_;refine a_p rfl ?_)
  |refine a_n ?_
  |(refine k_V ?_;first|refine v_seq ?_|refine v_reg ?_)
  |refine s_n ?_)
 refine g_range acts.length (fun q:D×List Int=>[(0,.v (.slice d.a acts.length d.cap)),(1,.v (.slice e.a ans.length e.cap)),(2,.v (.int .i64 op)),(7,.v (.slice q.1.a q.2.length q.1.cap))]) (fun q=>[slA 1 iv q.1 q.2,slA 5 av d acts,slA 2 anv e ans]) (fun i q=>q.2=nums op (acts.take i) (ans.take i)) (⟨none,0⟩,[]) rfl (fun i q hi hv=>?_) (fun q hv=>?_) (hent:=(ent_new (f:=iv) (size:=1)).trans (Pm.ent pmt))
 ·obtain⟨g,l⟩:=q
  dsimp only at hv⊢
  obtain⟨b,gb⟩:∃b,acts[i]?=some b:=⟨_,List.getElem?_eq_getElem hi⟩
  obtain⟨r,gr⟩:∃r,ans[i]?=some r:=⟨_,List.getElem?_eq_getElem (by omega)⟩
  have hlen:l.length≤1000:=by
   rw[hv]
   have:=nums_le op (acts.take i) (ans.take i)
   rw[List.length_take]at this;omega
  have hn:=nums_take (op:=op) gb gr
  repeat' (first
   |(refine k_L ?_;first|refine a_p rfl ?_|(refine k_g ?_;first|refine a_gy rfl rfl ?_|refine a_gn rfl rfl ?_|(refine a_gd rfl (fun hb=>?_) (fun hb=>?_)<;>try(exfalso;omega)))|(refine k_l ?_;first|refine a_l rfl (by exact rd_t (rd_h (rd_sl (fun _=>rfl) gb rfl))) ?_|refine a_l rfl (by exact rd_t (rd_t (rd_h (rd_sl (fun _=>rfl) gr rfl)))) ?_)|(refine k_i ?_;refine g_i rfl rfl ?_)|(refine k_bl ?_;refine a_bl rfl ?_)|(refine g_ai (xs:=l) rfl rfl (by omega) (fun e'=>?_) (hb:=by omega)))
   |refine a_n ?_
   |(refine k_V ?_;first|refine v_seq ?_|refine v_reg ?_|refine v_skip ?_|refine v_cf rfl ?_|(refine v_cd rfl (fun hb=>?_) (fun hb=>?_)<;>try(exfalso;omega))))
  ·exact r_nx (e',l++[r.2]) (by dsimp only;rw[hn,if_pos ‹b.op=op›,hv])
  ·exact r_nx (g,l) (by dsimp only;rw[hn,if_neg hb,List.append_nil,hv])
 ·obtain⟨g,l⟩:=q
  dsimp only at hv⊢
  rw[List.take_length,hl,List.take_length]at hv
  subst hv
  repeat' (first
   |(refine k_L ?_;refine a_p rfl ?_)
   |refine a_n ?_
   |(refine k_V ?_;first|refine v_seq ?_|refine v_reg ?_|refine v_ret ?_))
  exact fa_r (As':=[slA 1 iv g (nums op acts ans),slA 5 av d acts,slA 2 anv e ans]) (fun _ _=>rfl) (Pm.ent pmt) ⟨g,rfl,rfl⟩
def mcHead(n:Nat):List Act:=[⟨1,0,0,n,0⟩,⟨11,0,0,1,0⟩,⟨1,1,0,0,0⟩,⟨4,3,1,0,0⟩]
def mcLoop(u i:Nat):List Act:=[⟨7,0,1,i,0⟩,⟨1,2,0,0,0⟩,⟨8,0,2,i,0⟩,⟨22,0,0,u,0⟩,⟨4,1,2,0,0⟩]
def mcTail(u:Nat):List Act:=[⟨3,1,0,0,0⟩,⟨3,2,0,0,0⟩,⟨18,0,0,0,0⟩,⟨22,0,0,u,0⟩,⟨17,0,0,0,0⟩,⟨20,0,0,0,0⟩,⟨3,3,0,0,0⟩,⟨20,0,0,0,0⟩,⟨18,0,0,0,0⟩,⟨22,0,0,u,0⟩,⟨17,0,0,0,0⟩,⟨21,0,0,0,0⟩]
def mcMid(n u k:Nat):List Act:=mcHead n++(List.range k).flatMap (mcLoop u)
def mcL(n u:Nat):List Act:=mcMid n u n++mcTail u
theorem mcMid_succ(n u k:Nat):mcMid n u (k+1)=mcMid n u k++mcLoop u k:=by
 unfold mcMid
 rw[List.range_succ,List.flatMap_append]
 simp
theorem mcMid_len(n u k:Nat):(mcMid n u k).length=4+5*k:=by
 induction k with
 |zero=>rfl
 |succ k ih=>rw[mcMid_succ,List.length_append,ih];simp[mcLoop];omega
def eN:Nd:=⟨0,0,0,[]⟩
def c0(ps:List Pair):Nd:=⟨0,1,0,ps⟩
def cps(i:Nat):List Pair:=(List.range i).map fun k:Nat=>⟨Wc ((k:Int)+2),Wc ((k:Int)+3)⟩
theorem cps_len(i:Nat):(cps i).length=i:=by simp[cps]
theorem cps_succ(i:Nat):cps (i+1)=cps i++[⟨Wc ((i:Int)+2),Wc ((i:Int)+3)⟩]:=by simp[cps,List.range_succ]
def chI(ps:List Pair)(m:Nat)(regs:List Word):Ideal:=⟨1000,regs,c0 ps::List.replicate m eN⟩
theorem ch_nd1{ps:List Pair}{m:Nat}{r:List Word}:ndI (chI ps m r) 1=some (c0 ps):=rfl
theorem ch_nd{ps:List Pair}{m:Nat}{r:List Word}{b:Int}{n:Nd}(h:ndI (chI ps m r) b=some n):(b=1∧n=c0 ps)∨(2≤b∧b≤m+1∧n=eN):=by
 have hl:=ndI_lt h
 by_cases e:b=1
 ·subst e;rw[ch_nd1]at h;cases h;exact .inl ⟨rfl,rfl⟩
 ·right
  unfold ndI chI at h
  rw[if_pos hl.1,show(b-1).toNat=(b-2).toNat+1 by omega,List.getElem?_cons_succ,List.getElem?_replicate]at h
  split at h
  ·cases h;exact⟨by omega,by omega,rfl⟩
  ·cases h
theorem ch_tot{ps:List Pair}{m:Nat}{r:List Word}:totI (chI ps m r)=1+ps.length+m:=by
 unfold totI chI
 simp only[List.map_cons,List.map_replicate,List.sum_cons]
 have:∀k:Nat,(List.replicate k (1+(eN.pairs.length:Int))).sum=k:=fun k=>by
  induction k with
  |zero=>rfl
  |succ k ih=>rw[List.replicate_succ,List.sum_cons,ih];simp[eN];omega
 rw[this]
 rfl
theorem ch_len{ps:List Pair}{m:Nat}{r:List Word}:(chI ps m r).things.length=m+1:=by simp[chI]
theorem ch_upd{ps qs:List Pair}{m:Nat}{r:List Word}:(chI ps m r).upd 1 {c0 ps with pairs:=qs}=chI qs m r:=rfl
theorem ch_push{ps:List Pair}{m:Nat}{r:List Word}:(chI ps m r).push eN=chI ps (m+1) r:=by
 unfold Ideal.push chI
 simp only[List.cons_append,Ideal.mk.injEq,List.cons.injEq,true_and]
 rw[List.replicate_succ']
noncomputable def chS(n i:Nat):Ideal:=chI (cps i++List.replicate (n-i) Pair.no) (i+1) (rg (Wc 1) (Wc ((i:Int)+2)) (if i=0 then W0 else Wc ((i:Int)+2)) (Wc 2) W0 W0 W0)
theorem ch_loop{n u i:Nat}(hi:i<n)(hn:n≤60)(hu:u≤20):runI (chS n i) (mcLoop u i)=chS n (i+1):=by
 obtain⟨m,hm⟩:∃m,n-i=m+1:=⟨n-i-1,by omega⟩
 have hm2:n-(i+1)=m:=by omega
 unfold chS mcLoop
 rw[hm,hm2]
 generalize(if i=0 then W0 else Wc ((i:Int)+2))=r2
 simp only[runI]
 have p0:(cps i++List.replicate (m+1) Pair.no)[i]?=some Pair.no:=by
  rw[List.getElem?_append_right (by rw[cps_len];omega),cps_len,Nat.sub_self];rfl
 have s0:∀q,(cps i++List.replicate (m+1) Pair.no).set i q=cps i++q::List.replicate m Pair.no:=fun q=>by
  rw[List.set_append_right _ _ (by rw[cps_len];omega),cps_len,Nat.sub_self];rfl
 rw[i_setkey (b:=1) (by omega) (by omega) (by omega) rfl ch_nd1 p0]
 simp only
 rw[show(c0 (cps i++List.replicate (m+1) Pair.no)).pairs=cps i++List.replicate (m+1) Pair.no from rfl,s0,ch_upd]
 rw[i_new (by simp[ActP,aMost,bMost,cMost]) (by rw[ch_tot,List.length_append,cps_len];simp[chI];omega)]
 simp only
 rw[show(⟨0,0,0,List.replicate (0:Int).toNat Pair.no⟩:Nd)=eN from rfl,ch_push,ch_len]
 have q0:∀q,(cps i++q::List.replicate m Pair.no)[i]?=some q:=fun q=>by
  rw[List.getElem?_append_right (by rw[cps_len];omega),cps_len,Nat.sub_self];rfl
 have t0:∀p q,(cps i++p::List.replicate m Pair.no).set i q=cps i++q::List.replicate m Pair.no:=fun p q=>by
  rw[List.set_append_right _ _ (by rw[cps_len];omega),cps_len,Nat.sub_self];rfl
 have e3:∀(ps:List Pair) (k:Nat) (a b c d e f g w:Word),(chI ps k (rg a b c d e f g)).setR 2 w=chI ps k (rg a b w d e f g):=fun _ _ _ _ _ _ _ _ _ _=>rfl
 rw[e3,i_setval (b:=1) (by omega) (by omega) (by omega) rfl ch_nd1 (q0 _)]
 simp only
 rw[show ∀ps,(c0 ps).pairs=ps from fun _=>rfl,t0,ch_upd]
 rw[i_step (by simp[ActP,aMost,bMost,cMost];omega)]
 simp only
 rw[i_copy (by omega) (by omega)]
 simp only
 rw[cps_succ,List.append_assoc]
 rw[if_neg (by omega)]
 have e4:((i+1+1:Nat):Int)+1=((i+1:Nat):Int)+2:=by omega
 have e5:((i+1:Nat):Int)+2=(i:Int)+3:=by omega
 rw[e4,e5]
 rfl
theorem ch_head{n:Nat}(hn:1≤n∧n≤60):runI ⟨1000,List.replicate 16 W0,[]⟩ (mcHead n)=chS n 0:=by
 unfold mcHead
 simp only[runI]
 have P0:totI (⟨1000,List.replicate 16 W0,[]⟩:Ideal)=0:=rfl
 rw[i_new (s:=⟨1000,List.replicate 16 W0,[]⟩) (by simp[ActP,aMost,bMost,cMost];omega) (by rw[P0];simp;omega)]
 simp only
 rw[Int.toNat_natCast]
 have e1:(Ideal.push ⟨1000,List.replicate 16 W0,[]⟩ ⟨0,0,0,List.replicate n Pair.no⟩).setR 0 ⟨2,0,((([]:List Nd).length:Nat):Int)+1⟩=⟨1000,rg (Wc 1) W0 W0 W0 W0 W0 W0,[⟨0,0,0,List.replicate n Pair.no⟩]⟩:=rfl
 rw[e1,i_weak (b:=1) (n:=⟨0,0,0,List.replicate n Pair.no⟩) (by omega) (by omega) rfl rfl]
 simp only
 have e2:(Ideal.upd ⟨1000,rg (Wc 1) W0 W0 W0 W0 W0 W0,[⟨0,0,0,List.replicate n Pair.no⟩]⟩ 1 ⟨0,1,0,List.replicate n Pair.no⟩)=chI (List.replicate n Pair.no) 0 (rg (Wc 1) W0 W0 W0 W0 W0 W0):=rfl
 rw[e2,i_new (by simp[ActP,aMost,bMost,cMost]) (by rw[ch_tot,List.length_replicate];simp[chI];omega)]
 simp only
 rw[show(⟨0,0,0,List.replicate (0:Int).toNat Pair.no⟩:Nd)=eN from rfl,ch_push,ch_len]
 rw[i_copy (by omega) (by omega)]
 rfl
theorem ch_mid{n u:Nat}(hn:1≤n∧n≤60)(hu:u≤20):∀k,k≤n→runI ⟨1000,List.replicate 16 W0,[]⟩ (mcMid n u k)=chS n k
 |0,_=>by
  unfold mcMid
  rw[List.range_zero,List.flatMap_nil,List.append_nil]
  exact ch_head hn
 |k+1,hk=>by
  rw[mcMid_succ,runI_app,ch_mid hn hu k (by omega),ch_loop (by omega) hn.2 hu]
theorem c0_key{ps:List Pair}:¬KeyI (c0 ps).weak:=keyI1
theorem c0_val{ps:List Pair}:ValI (c0 ps).weak:=valI1
theorem cps_mem{n:Nat}{p:Pair}(h:p∈cps n):∃k:Nat,k<n∧p=⟨Wc ((k:Int)+2),Wc ((k:Int)+3)⟩:=by
 obtain⟨k,hk,rfl⟩:=List.mem_map.1 h
 exact⟨k,List.mem_range.1 hk,rfl⟩
theorem mem_cps{n k:Nat}(h:k<n):(⟨Wc ((k:Int)+2),Wc ((k:Int)+3)⟩:Pair)∈cps n:=List.mem_map.2 ⟨k,List.mem_range.2 h,rfl⟩
theorem ch_all{n:Nat}:∀b:Int,1≤b→b≤n+2→HeldI (chI (cps n) (n+1) (rg (Wc 1) W0 W0 (Wc 2) W0 W0 W0)) b:=by
 have h1:HeldI (chI (cps n) (n+1) (rg (Wc 1) W0 W0 (Wc 2) W0 W0 W0)) 1:=.reg (w:=Wc 1) (List.mem_of_getElem? (i:=0) rfl) ⟨rfl,rfl⟩
 have key:∀k:Nat,k≤n→HeldI (chI (cps n) (n+1) (rg (Wc 1) W0 W0 (Wc 2) W0 W0 W0)) ((k:Int)+2):=by
  intro k
  induction k with
  |zero=>intro _;exact .reg (w:=Wc 2) (List.mem_of_getElem? (i:=3) rfl) ⟨rfl,rfl⟩
  |succ k ih=>
   intro hk
   have ih:=ih (by omega)
   have:=HeldI.val (d:=(k:Int)+3) h1 ch_nd1 (mem_cps (n:=n) (k:=k) (by omega)) c0_val (fun j hj=>by
    have:(k:Int)+2=j:=hj.2
    rw[←this];exact ih) ⟨rfl,rfl⟩
   rw[show((k+1:Nat):Int)+2=(k:Int)+3 by omega]
   exact this
 intro b h2 h3
 by_cases e:b=1
 ·rw[e];exact h1
 ·have:=key (b-2).toNat (by omega)
  rw[show(((b-2).toNat:Nat):Int)+2=b by omega]at this
  exact this
theorem ch_keep{n:Nat}:settleI (chI (cps n) (n+1) (rg (Wc 1) W0 W0 (Wc 2) W0 W0 W0))=chI (cps n) (n+1) (rg (Wc 1) W0 W0 (Wc 2) W0 W0 W0):=by
 have all:=ch_all (n:=n)
 generalize hs:chI (cps n) (n+1) (rg (Wc 1) W0 W0 (Wc 2) W0 W0 W0)=s at*
 unfold settleI
 have:s.things.mapIdx (fun i x=>stI s ((i:Int)+1) x)=s.things:=by
  refine List.ext_getElem? fun i=>?_
  rw[List.getElem?_mapIdx]
  cases hx:s.things[i]? with
  |none=>rfl
  |some x=>
   have hl:=(List.getElem?_eq_some_iff.1 hx).1
   have hl2:s.things.length=n+2:=by rw[←hs,ch_len]
   have hb:=all ((i:Int)+1) (by omega) (by omega)
   have hn:ndI s ((i:Int)+1)=some x:=by
    unfold ndI;rw[if_pos (by omega),show((i:Int)+1-1).toNat=i by omega];exact hx
   have key:∀p,p∈x.pairs→¬GoneI s x p:=fun p hp=>by
    rw[←hs]at hn
    rcases ch_nd hn with⟨_,rfl⟩|⟨_,_,rfl⟩
    ·obtain⟨k,hk,rfl⟩:=cps_mem hp
     rintro(⟨_,b,⟨_,rfl⟩,h2⟩|⟨_,b,⟨_,rfl⟩,h2⟩)
     ·exact h2 (all _ (by simp only;omega) (by simp only;omega))
     ·exact h2 (all _ (by simp only;omega) (by simp only;omega))
    ·cases hp
   simp only[Option.map_some,Option.some.injEq]
   unfold stI
   rw[if_pos hb,List.filter_eq_self.2 (fun p hp=>by simpa using key p hp)]
 rw[this]
theorem ch_one{ps:List Pair}{m:Nat}(hp:∀p,p∈ps→∃k:Int,p.key=Wc k∧2≤k){b:Int}(h:HeldI (chI ps m (rg (Wc 1) W0 W0 W0 W0 W0 W0)) b):b=1:=by
 induction h with
 |reg h1 h2=>
  obtain⟨i,hi⟩:=List.getElem?_of_mem h1
  have hr:(chI ps m (rg (Wc 1) W0 W0 W0 W0 W0 W0)).regs=Wc 1::List.replicate 15 W0:=rfl
  rw[hr]at h1
  rcases List.mem_cons.1 h1 with rfl|h1
  ·exact h2.2.symm
  ·have:=List.eq_of_mem_replicate h1
   subst this
   exact absurd h2.1 (by simp)
 |due h1 h2=>
  rcases ch_nd h1 with⟨_,rfl⟩|⟨_,_,rfl⟩
  ·exact absurd h2 (by simp[c0])
  ·exact absurd h2 (by simp[eN])
 |key _ h2 h3 h4 _ _=>
  rcases ch_nd h2 with⟨_,rfl⟩|⟨_,_,rfl⟩
  ·exact absurd h4 c0_key
  ·cases h3
 |val _ h2 h3 _ _ _ _ ih2=>
  rcases ch_nd h2 with⟨_,rfl⟩|⟨_,_,rfl⟩
  ·obtain⟨k,hk,h2k⟩:=hp _ h3
   have:=ih2 k (by rw[hk];exact⟨rfl,rfl⟩)
   omega
  ·cases h3
theorem ch_held1{ps:List Pair}{m:Nat}:HeldI (chI ps m (rg (Wc 1) W0 W0 W0 W0 W0 W0)) 1:=.reg (w:=Wc 1) (List.mem_of_getElem? (i:=0) rfl) ⟨rfl,rfl⟩
theorem ch_gone{n:Nat}:settleI (chI (cps n) (n+1) (rg (Wc 1) W0 W0 W0 W0 W0 W0))=chI [] (n+1) (rg (Wc 1) W0 W0 W0 W0 W0 W0):=by
 have one:∀b,HeldI (chI (cps n) (n+1) (rg (Wc 1) W0 W0 W0 W0 W0 W0)) b→b=1:=fun b=>ch_one (fun p hp=>by obtain⟨k,_,rfl⟩:=cps_mem hp;exact⟨_,rfl,by omega⟩)
 have h1:=ch_held1 (ps:=cps n) (m:=n+1)
 unfold settleI
 have e:(chI (cps n) (n+1) (rg (Wc 1) W0 W0 W0 W0 W0 W0)).things.mapIdx (fun i x=>stI (chI (cps n) (n+1) (rg (Wc 1) W0 W0 W0 W0 W0 W0)) ((i:Int)+1) x)=c0 []::List.replicate (n+1) eN:=by
  refine List.ext_getElem? fun i=>?_
  rw[List.getElem?_mapIdx]
  cases i with
  |zero=>
   show some (stI _ _ (c0 (cps n)))=some (c0 [])
   unfold stI
   rw[if_pos (show HeldI _ ((0:Nat)+1:Int)from h1)]
   congr 1
   have:(c0 (cps n)).pairs.filter (fun p=>decide (¬GoneI (chI (cps n) (n+1) (rg (Wc 1) W0 W0 W0 W0 W0 W0)) (c0 (cps n)) p))=[]:=by
    rw[List.filter_eq_nil_iff]
    intro p hp hq
    have hq:¬GoneI (chI (cps n) (n+1) (rg (Wc 1) W0 W0 W0 W0 W0 W0)) (c0 (cps n)) p:=by simpa using hq
    refine hq (.inl ⟨c0_key,?_⟩)
    obtain⟨k,_,rfl⟩:=cps_mem hp
    exact⟨(k:Int)+2,⟨rfl,rfl⟩,fun h=>by have:=one _ h;omega⟩
   rw[this];rfl
  |succ i=>
   show Option.map _ ((List.replicate (n+1) eN)[i]?)=(List.replicate (n+1) eN)[i]?
   rw[List.getElem?_replicate]
   split
   ·simp only[Option.map_some,Option.some.injEq]
    unfold stI
    rw[if_neg (fun h=>by have:=one _ h;omega),if_neg (by simp[eN])]
   ·rfl
 rw[e];rfl
theorem ch_single{s:Ideal}{Q:Int→Prop}{n:Nd}(h1:ndI s 1=some n)(hQ:Q 1)(h:∀b,Q b→b=1):((posI s Q).map Prod.snd).sum=1+n.pairs.length:=by
 rw[posI_eq (u:=[((1:Int),1+(n.pairs.length:Int))]) (by simp) (fun b m=>?_) (fun x hx=>?_)]
 ·simp
 ·constructor
  ·rintro⟨a,c⟩
   have:=h b c
   subst this
   rw[h1]at a
   cases a
   exact⟨by simp,h1⟩
  ·rintro⟨a,c⟩
   simp only[List.mem_singleton,Prod.mk.injEq]at a
   obtain⟨rfl,_⟩:=a
   exact⟨c,hQ⟩
 ·simp only[List.mem_singleton]at hx
  subst hx
  exact⟨n,h1,rfl⟩
theorem ch_reach{m:Nat}{b:Int}(h:ReachI (chI [] m (rg (Wc 1) W0 W0 W0 W0 W0 W0)) b):b=1:=by
 induction h with
 |reg h1 h2=>
  have hr:(chI [] m (rg (Wc 1) W0 W0 W0 W0 W0 W0)).regs=Wc 1::List.replicate 15 W0:=rfl
  rw[hr]at h1
  rcases List.mem_cons.1 h1 with rfl|h1
  ·exact h2.2.symm
  ·have:=List.eq_of_mem_replicate h1
   subst this
   exact absurd h2.1 (by simp)
 |root h1 h2=>
  rcases ch_nd h1 with⟨_,rfl⟩|⟨_,_,rfl⟩
  ·exact absurd h2 (by simp[c0])
  ·exact absurd h2 (by simp[eN])
 |pair _ h2 h3 _ _ _=>
  rcases ch_nd h2 with⟨_,rfl⟩|⟨_,_,rfl⟩<;>cases h3
theorem chain_ok{n u:Nat}(hn:1≤n∧n≤60)(hu:u≤20):
 nums 17 (mcL n u) (ansI ⟨1000,List.replicate 16 W0,[]⟩ (mcL n u))=[(n:Int),0]∧
 nums 20 (mcL n u) (ansI ⟨1000,List.replicate 16 W0,[]⟩ (mcL n u))=[2*(n:Int)+2,(n:Int)+1]∧
 nums 21 (mcL n u) (ansI ⟨1000,List.replicate 16 W0,[]⟩ (mcL n u))=[1]:=by
 have mid:∀op,op=17∨op=20∨op=21→nums op (mcMid n u n) (ansI ⟨1000,List.replicate 16 W0,[]⟩ (mcMid n u n))=[]:=fun op ho=>nums_no op _ _ fun b hb=>by
  unfold mcMid at hb
  rcases List.mem_append.1 hb with hb|hb
  ·unfold mcHead at hb
   simp only[List.mem_cons,List.not_mem_nil,or_false]at hb
   rcases hb with rfl|rfl|rfl|rfl<;>simp only<;>omega
  ·obtain⟨k,_,hb⟩:=List.mem_flatMap.1 hb
   unfold mcLoop at hb
   simp only[List.mem_cons,List.not_mem_nil,or_false]at hb
   rcases hb with rfl|rfl|rfl|rfl|rfl<;>simp only<;>omega
 have hS:runI ⟨1000,List.replicate 16 W0,[]⟩ (mcMid n u n)=chS n n:=ch_mid hn hu n (Nat.le_refl _)
 have eS:(chS n n).setR 1 W0=chI (cps n) (n+1) (rg (Wc 1) W0 (if n=0 then W0 else Wc ((n:Int)+2)) (Wc 2) W0 W0 W0):=by
  unfold chS
  rw[Nat.sub_self,List.replicate_zero,List.append_nil]
  rfl
 have e2:∀w,(chI (cps n) (n+1) (rg (Wc 1) W0 w (Wc 2) W0 W0 W0)).setR 2 W0=chI (cps n) (n+1) (rg (Wc 1) W0 W0 (Wc 2) W0 W0 W0):=fun _=>rfl
 have e3:(chI (cps n) (n+1) (rg (Wc 1) W0 W0 (Wc 2) W0 W0 W0)).setR 3 W0=chI (cps n) (n+1) (rg (Wc 1) W0 W0 W0 W0 W0 W0):=rfl
 have k1:countI (chI (cps n) (n+1) (rg (Wc 1) W0 W0 (Wc 2) W0 W0 W0))=2*(n:Int)+2:=by
  unfold countI
  rw[posI_all (fun b h1 h2=>ch_all b h1 (by rw[ch_len]at h2;omega)),ch_tot,cps_len]
  omega
 have k2:countI (chI (cps n) (n+1) (rg (Wc 1) W0 W0 W0 W0 W0 W0))=(n:Int)+1:=by
  unfold countI
  rw[ch_single ch_nd1 ch_held1 (fun b=>ch_one (fun p hp=>by obtain⟨k,_,rfl⟩:=cps_mem hp;exact⟨_,rfl,by omega⟩))]
  show 1+((cps n).length:Int)=_
  rw[cps_len];omega
 have k3:liveI (chI [] (n+1) (rg (Wc 1) W0 W0 W0 W0 W0 W0))=1:=by
  unfold liveI
  rw[ch_single ch_nd1 (heldI_reach ch_held1) (fun b=>ch_reach)]
  rfl
 have pu:ActP ⟨22,0,0,u,0⟩:=by simp[ActP,aMost,bMost,cMost];omega
 have sz:∀(ps:List Pair) (m:Nat) (b c d e f g:Word),actI (chI ps m (rg (Wc 1) b c d e f g)) ⟨17,0,0,0,0⟩=⟨chI ps m (rg (Wc 1) b c d e f g),0,ps.length⟩:=fun _ _ _ _ _ _ _ _=>i_size (b:=1) (by omega) rfl ch_nd1
 have tail:ansI (chS n n) (mcTail u)=[(0,0),(0,0),(0,duesI (chI (cps n) (n+1) (rg (Wc 1) W0 W0 (Wc 2) W0 W0 W0))),(0,0),(0,(n:Int)),(0,2*(n:Int)+2),(0,0),(0,(n:Int)+1),(0,duesI (chI (cps n) (n+1) (rg (Wc 1) W0 W0 W0 W0 W0 W0))),(0,0),(0,0),(0,1)]:=by
  unfold mcTail
  simp only[ansI,i_nil (r:=1) (by omega),i_nil (r:=2) (by omega),i_nil (r:=3) (by omega),eS,e2,i_settle,ch_keep,i_step pu,sz,i_count,k1,e3,k2,ch_gone,i_live,k3]
  simp[c0,cps_len]
 unfold mcL
 rw[nums_run,nums_run,nums_run,mid 17 (by omega),mid 20 (by omega),mid 21 (by omega),hS,tail]
 refine⟨?_,?_,?_⟩<;>simp[nums,mcTail]
theorem wInts_t{m:Mem}{d e:D}{xs:List Int}(hx:Has m [slA 1 iv d xs])(hy:Has m [slA 1 iv e xs]):Qt Tryd.prog 10 [.slice d.a xs.length d.cap,.slice e.a xs.length e.cap] m (.bool true):=by
 have hbd:xs.length≤140737488355328:=by obtain⟨a,l,s⟩:=hx;exact(kn_h bd_sl).out a s
 refine qt_of (fnA_of (fun h=>fn10 (by simp) h) ?_)
 repeat' (first
  |(refine k_L ?_;refine a_p rfl ?_)
  |refine a_n ?_
  |(refine k_V ?_;first|refine v_seq ?_|refine v_reg ?_|refine v_skip ?_|(refine v_cn rfl (fun hb=>?_) (fun hb=>?_)<;>try(exfalso;omega)))
  |refine s_n ?_)
 refine g_range xs.length (fun _:Unit=>[(0,.v (.slice d.a xs.length d.cap)),(1,.v (.slice e.a xs.length e.cap))]) (fun _=>[ro m]) (fun _ _=>True) () trivial (fun i _ hi _=>?_) (fun _ _=>?_)
 ·obtain⟨w,gw⟩:∃w,xs[i]?=some w:=⟨_,List.getElem?_eq_getElem hi⟩
  repeat' (first
   |(refine k_L ?_;first|refine a_p rfl ?_|(refine k_l ?_;refine g_l rfl ?_)|(refine k_i ?_;refine g_i rfl rfl ?_)|(refine a_i (e:=d) rfl rfl (kn_h (kn_ro hx (kn_h (bs_sl gw)))) (by omega) ?_)|(refine a_l rfl (rd_h (rd_ro hx (rd_h (rd_sl (j:=0) (fun _=>rfl) gw rfl)))) ?_))
   |refine a_n ?_
   |(refine k_V ?_;first|refine v_seq ?_|refine v_reg ?_|refine v_dreg ?_|refine v_skip ?_|(refine v_cn rfl (fun hb=>?_) (fun hb=>?_)<;>try(exfalso;omega))))
  all_goals first
   |exact r_nx () trivial
   |(exfalso;simp at hb;done)
 ·repeat' (first
   |refine a_n ?_
   |(refine k_V ?_;refine v_rv ?_))
  exact fa_q (by simp) (fun _ _=>rfl) rfl
def Heap.nw(room:Int):Heap:=⟨room,0,0,List.replicate 16 ⟨0,0,0⟩,[],0,0,0,[],0,0,0,0⟩
theorem nw_sound{room:Int}(h:1≤room∧room≤4000):Sound (Heap.nw room) where
 r1:=⟨h,by simp[Heap.nw],by simp[Heap.nw];omega,by simp[Heap.nw],by simp[Heap.nw],by simp[Heap.nw],by simp[Heap.nw],by simp[Heap.nw],by simp[Heap.nw],by simp[Heap.nw],by simp[Heap.nw],by simp[Heap.nw]⟩
 r2:=⟨fun i c hc=>by simp[Heap.nw]at hc,fun i j c d hc=>by simp[Heap.nw]at hc,fun i j c d hc=>by simp[Heap.nw]at hc⟩
 r3:=⟨rfl,by show(0:Int)≤room;omega⟩
 r4:=⟨fun w hw=>by
  have:w=⟨0,0,0⟩:=List.eq_of_mem_replicate hw
  subst this
  exact⟨.inl ⟨rfl,rfl,rfl⟩,fun hk=>by simp at hk⟩,fun i c hc=>by simp[Heap.nw]at hc,fun i c hc=>by simp[Heap.nw]at hc⟩
 r5:=⟨fun hm=>by rcases hm with h|h<;>simp[Heap.nw]at h,fun _=>⟨rfl,fun i c hc=>by simp[Heap.nw]at hc⟩⟩
 r6:=by unfold R6;rw[if_pos (.inl rfl)];exact⟨rfl,rfl⟩
 r7:=fun hm=>by rcases hm with h|h<;>simp[Heap.nw]at h
 r8:=fun h=>by simp[Heap.nw]at h
theorem freshI_a{room:Int}(h:1≤room∧room≤4000):FnA Tryd.prog 16 [.int .i64 room] [] (fun v As'=>∃z:HX,v=z.v∧As'=z.body∧z.H=Heap.nw room):=by
 refine fnA_of (fun h=>fn16 (by simp) h) ?_
 repeat' (first
  |(refine k_L ?_;first|refine a_p rfl ?_|(refine k_st ?_;refine g_sw rfl rfl rfl rfl (Nat.le_of_ble_eq_true rfl) ?_)|(refine k_al ?_;refine a_al ?_)|(refine k_c ?_;refine a_cq rfl (fun m hm=>impl.withinQ) ?_)|(refine a_mk (f:=wv) (n:=16) (k:=16) ⟨0,0,0⟩ wv_len rfl rfl rfl (by omega) (by omega) (fun g hg=>?_)))
  |refine a_n ?_
  |(refine k_V ?_;first|refine v_seq ?_|refine v_reg ?_|refine v_ret ?_|refine v_skip ?_|(refine v_cnd rfl (fun hb=>?_) (fun hb=>?_)<;>try(exfalso;omega)))
  |refine sk_zero ?_
  |refine sk_succ ?_
  |refine wk_nil ?_
  |refine wk_cons ?_)
 refine fa_r (As':=(⟨room,0,0,List.replicate 16 ⟨0,0,0⟩,[],0,0,0,[],0,0,0,0,g,⟨none,0⟩,⟨none,0⟩⟩:HX).body) (fun _ _=>rfl) ?_ ⟨_,rfl,rfl,rfl⟩
 refine Ent.trans (ent_new (f:=iv) (size:=1)) ?_
 refine Ent.trans (ent_new (f:=csv) (size:=8)) ?_
 refine Ent.trans (cl_nil (d:=⟨none,0⟩)) ?_
 exact Pm.ent pmt
theorem playable_q{m:Mem}{room:Int}{sa:Option Addr}{n cap:Nat}(hn:n≤1000)(hr:1≤room∧room≤4000):Qt Tryd.prog 15 [.int .i64 room,.slice sa n cap] m (.bool true):=by
 refine qt_of (fnA_of (fun h=>fn15 (by simp) h) ?_)
 repeat' (first
  |(refine k_L ?_;first|refine a_p rfl ?_|(refine k_g ?_;first|refine a_gy rfl rfl ?_|(refine a_gd rfl (fun hb=>?_) (fun hb=>?_)<;>try(exfalso;omega)))|(refine k_c ?_;refine a_cq rfl (fun m hm=>impl.withinQ) ?_))
  |refine a_n ?_
  |(refine k_V ?_;first|refine v_seq ?_|refine v_reg ?_|refine v_ret ?_))
 all_goals first
  |(exfalso;omega)
  |exact fa_q (by simp) (fun _ _=>rfl) (by congr 1;simp;omega)
def plV(b:Bool)(sd:D)(n:Nat)(x:HX):Value:=.agg (.bool b::.slice sd.a n sd.cap::x.row).toArray
theorem wr_off:∀(vs cs ds:List Value),ds.length=vs.length→wr (cs++ds) cs.length vs=cs++vs
 |[],cs,ds,h=>by
  have:ds=[]:=List.eq_nil_of_length_eq_zero h
  subst this;rfl
 |v::r,cs,d::ds,h=>by
  show wr ((cs++d::ds).set cs.length v) (cs.length+1) r=_
  have e:(cs++d::ds).set cs.length v=(cs++[v])++ds:=by
   rw[List.set_append_right _ _ (Nat.le_refl _),Nat.sub_self];simp
  rw[e,show cs.length+1=(cs++[v]).length by simp,wr_off r (cs++[v]) ds (by simpa using h)]
  simp
theorem wr_full{vs ds:List Value}(h:ds.length=vs.length):wr ds 0 vs=vs:=wr_off vs [] ds h
theorem up_full{b:Nat}{z vs:List Value}(h:z.length=vs.length):UpA (bx b z) b 0 vs (bx b vs):=up_bx (by omega) ⟨by rw[wr_full h]⟩
section
variable {P:Program} {S:St} {As:List Asr} {post:St→List Asr→Prop} {r:List I} {d:Option Nat}
theorem a_sth{p y:Operand}{b:Nat}{z:List Value}(x:HX)(hp:lc S p=some (.mm b 0))(hy:ev S y=some x.v)(hz:z.length=13)(h:LA P r post S (hdA b x.hdr::As)):LA P (⟨d,none,.store 13 p y⟩::r) post S (bx b z::As):=
 a_st hp hy rfl rfl (up_h (up_full (vs:=x.row) hz)) h
theorem g_swf{n:Nat}{x y:Operand}{s:Nat}{cs vs:List Value}(hx:lc S x=some (.bx s 0))(hb:S s=.box cs)(hy:ev S y=some (.agg vs.toArray))(hn:vs.length=n)(hl:cs.length=n)(hpl:plainCells vs=true)
 (h:LA P r post (upF S s (.box vs)) As):LA P (⟨d,none,.store n x y⟩::r) post S As:=
 g_sw (v:=.agg vs.toArray) hx hb hy hn (by omega) ⟨by show LA P r post (upF S s (.box (wr cs 0 vs))) As;rw[wr_full (by omega)];exact h⟩ hpl
end
theorem play_a{m:Mem}{acts:List Act}{d:D}{room:Int}(hact:∀(a:Nat) (b:Act) (x:HX),b∈acts→Sound x.H→FnA Tryd.prog 27 [eV a,actV b] (hp a x++[ro m]) (fun v As=>∃z:HX,v=an (actA x.H b).code (actA x.H b).num∧As=hp a z++[ro m]∧z.H=(actA x.H b).heap))(hb:acts.length≤1000)(hr:1≤room∧room≤4000):
 FnA Tryd.prog 8 [.int .i64 room,.slice d.a acts.length d.cap] [slA 5 av d acts,ro m] (fun v As=>∃(z:HX) (sd:D),v=plV true sd (ansL (Heap.nw room) acts).length z∧As=z.body++[slA 2 anv sd (ansL (Heap.nw room) acts),slA 5 av d acts,ro m]∧z.H=runH (Heap.nw room) acts):=by
 refine fnA_of (fun h=>fn8 (by simp) h) ?_
 repeat' (first
  |(refine k_L ?_;first|refine a_p rfl ?_|(refine k_al ?_;refine a_al ?_)|(refine k_c ?_;refine a_cq rfl (fun m hm=>playable_q hb hr) ?_)|(refine g_c rfl (freshI_a hr) (fun v As' hq=>?_);obtain⟨z,rfl,rfl,hz⟩:=hq))
  |refine a_n ?_
  |(refine k_V ?_;first|refine v_seq ?_|refine v_reg ?_|refine v_skip ?_|refine v_cf rfl ?_))
 refine a_nz (fun b=>?_)
 refine a_sth z rfl rfl rfl ?_
 repeat' (first
  |(refine k_L ?_;refine a_p rfl ?_)
  |refine a_n ?_
  |(refine k_V ?_;first|refine v_seq ?_|refine v_reg ?_))
 refine g_c rfl (all_a (x:=z) (d:=d) (hact b) (by rw[hz];exact nw_sound hr) hb) (fun v As' hq=>?_)
 obtain⟨u,sd,rfl,rfl,hu⟩:=hq
 rw[hz]at hu⊢
 refine a_p rfl (a_n (s_n (v_seq (v_reg (a_p rfl ?_)))))
 refine a_ls rfl (rs_h rs_hd) ?_
 refine a_p (sv:=.v (plV true sd (ansL (Heap.nw room) acts).length u)) rfl ?_
 refine g_swf (vs:=.bool true::.slice sd.a (ansL (Heap.nw room) acts).length sd.cap::u.row) rfl rfl rfl rfl rfl rfl ?_
 repeat' (first
  |refine a_n ?_
  |(refine k_V ?_;refine v_ret ?_))
 exact fa_r (As':=u.body++[slA 2 anv sd (ansL (Heap.nw room) acts),slA 5 av d acts,ro m]) (fun _ _=>rfl) (Pm.ent pmt) ⟨u,sd,rfl,rfl,hu⟩
def CS.s_take(y:CS)(n:Nat):CS:={y with c:={y.c with pairs:=y.c.pairs.take n}}
theorem ent_take{α:Type}{f:α→List Value}{size:Nat}(hs:∀x,(f x).length=size){d:D}{xs:List α}{k:Nat}(hk:k≤xs.length){R:List Asr}:Ent (slA size f d xs::R) (slA size f d (xs.take k)::R):=ent_h fun m h=>sl_take hs h hk
theorem a_kn{P:Program}{l:List I}{post:St→List Asr→Prop}{S:St}{As:List Asr}{p:Prop}(hk:Kn As p)(h:p→LA P l post S As):LA P l post S As:=⟨fun m hm=>(h (hk.out m hm)).out m hm⟩
theorem cutE_a{a:Nat}{x:HX}{i n:Nat}(h:Sound x.H)(hi:i<x.xs.length)(hs:(x.H.getC i).state=1):FnA Tryd.prog 45 [eV a,.int .i64 i,.int .i64 n] (hp a x) (fun v As=>∃z:HX,As=hp a z∧z.H=x.H.cutH i n):=by
 have hl:=x.len
 have hi':i<x.H.cells.length:=by omega
 have hub:=used_b h
 have hpl:=getC_pl h.r2 i
 have hsb:=h.r1.sub
 have hnc:x.hdr.nc=x.xs.length:=rfl
 have hu0:x.hdr.used=x.used:=rfl
 have hs0:x.hdr.sub=x.sub:=rfl
 have hs1:x.H.sub=x.sub:=rfl
 obtain⟨y,gy,gc⟩:=HX.at hi
 have gk:=HX.gc gy
 refine fnA_of (fun h=>fn45 (by simp) h) ?_
 unfold Heap.cutH
 rw[gk]at hpl⊢
 by_cases c:n<y.c.pairs.length
 ·rw[if_pos c]
  have key:∀(z:HX),z={x with xs:=x.xs.set i (y.s_take n),used:=x.used-(y.c.pairs.length-n)}→z.H.walkedI=x.H.walkedI∧z.xs.length=x.xs.length∧z.xs[i]?=some (y.s_take n)∧z.hdr.sub=x.sub∧z.hdr.nc=x.xs.length:=fun z hz=>by
   subst hz
   refine⟨?_,by simp,by simp[hi],rfl,by simp[HX.hdr]⟩
   unfold Heap.walkedI
   have:(HX.H {x with xs:=x.xs.set i (y.s_take n),used:=x.used-(y.c.pairs.length-n)}).cells.length=x.H.cells.length:=by simp[HX.H]
   rw[this];rfl
  have cutE:∀(z:HX) (s:Int),z={x with xs:=x.xs.set i (y.s_take n),used:=x.used-(y.c.pairs.length-n),sub:=s}→s=(if x.H.walkedI=i then min x.H.sub n else x.H.sub)→z.H=x.H.cutN i n:=fun z s hz e=>by
   subst hz
   unfold Heap.cutN Heap.putC
   rw[gk,←e]
   unfold HX.H
   simp only[List.map_set];rfl
  repeat' (first
   |(refine k_L ?_;first|(refine k_su ?_;refine g_su rfl rfl ?_)|refine a_p rfl ?_|(refine k_l ?_;refine g_l rfl ?_)|(refine k_i ?_;refine g_i rfl rfl ?_)|(refine k_st ?_;refine g_st rfl rfl rfl rfl ?_)|(refine k_bx ?_;refine a_bx rfl rfl ?_))
   |refine a_n ?_
   |(refine k_V ?_;first|refine v_seq ?_|refine v_reg ?_|refine v_dreg ?_|(refine v_cd rfl (fun hb=>?_) (fun hb=>?_)<;>try(exfalso;omega))))
  refine LA.ent (Bs:=[slA 8 csv x.cd x.xs,slA 6 pv y.d y.c.pairs,prA (x.xs.eraseIdx i),hdA a (x.hdr.s_used (x.used-(y.c.pairs.length-n))),slA 3 wv x.rd x.regs,slA 1 iv x.gd x.gray]) ?_ ?_
  ·exact(Pm.ent (As1:=[clA x.cd x.xs,hdA a (x.hdr.s_used (x.used-(y.c.pairs.length-n))),slA 3 wv x.rd x.regs,slA 1 iv x.gd x.gray]) pmt).trans ((cl_spl gy).trans (Pm.ent pmt))
  refine a_kn (kn_t (kn_h cp_sl)) fun hcap=>?_
  repeat' (first
   |(refine k_L ?_;first|refine a_p rfl ?_|(refine g_tk (e:=y.d) rfl rfl ?_))
   |refine a_n ?_)
  have htk:(y.s_take n).c.pairs.length=n:=by simp[CS.s_take];omega
  refine a_st (v:=.slice (y.s_take n).d.a (y.s_take n).c.pairs.length (y.s_take n).d.cap) rfl (by rw[htk];rfl) rfl rfl (up_h (up_sl (j:=7) (e':=y.s_take n) csv_len gy (Nat.le_of_ble_eq_true rfl) rfl)) ?_
  repeat' (first
   |(refine k_L ?_;refine a_p rfl ?_)
   |refine a_n ?_
   |(refine k_V ?_;first|refine v_seq ?_|refine v_reg ?_))
  obtain⟨k1,k2,k3,k4,k5⟩:=key _ rfl
  refine LA.ent (Bs:=hp a ({x with xs:=x.xs.set i (y.s_take n),used:=x.used-(y.c.pairs.length-n)}:HX)) ?_ ?_
  ·exact(((Pm.ent (As1:=[slA 6 pv y.d y.c.pairs,slA 8 csv x.cd (x.xs.set i (y.s_take n)),prA (x.xs.eraseIdx i),hdA a (x.hdr.s_used (x.used-(y.c.pairs.length-n))),slA 3 wv x.rd x.regs,slA 1 iv x.gd x.gray]) pmt).trans (ent_take pv_len (k:=n) (by omega))).trans (Pm.ent (As1:=[slA 8 csv x.cd (x.xs.set i (y.s_take n)),slA 6 pv (y.s_take n).d (y.s_take n).c.pairs,prA (x.xs.eraseIdx i),hdA a (x.hdr.s_used (x.used-(y.c.pairs.length-n))),slA 3 wv x.rd x.regs,slA 1 iv x.gd x.gray]) pmt)).trans ((cl_joi (y':=y.s_take n) (by omega)).trans (Pm.ent (fin ({x with xs:=x.xs.set i (y.s_take n),used:=x.used-(y.c.pairs.length-n)}:HX) (e1:=by simp[HX.hdr,Hdr.s_room,Hdr.s_used,Hdr.s_born,Hdr.s_phase,Hdr.s_hand,Hdr.s_sub,Hdr.s_per,Hdr.s_start,Hdr.s_rounds,Hdr.s_forced,Hdr.s_rd,Hdr.s_cd,Hdr.s_gd]))))
  have ct:(y.s_take n).c.pairs.length=n:=by simp[CS.s_take];omega
  repeat' (first
   |(refine k_L ?_;first|refine a_p rfl ?_|(refine k_l ?_;refine g_l rfl ?_)|(refine k_st ?_;refine g_st rfl rfl rfl rfl ?_)|(refine k_c ?_;refine a_cq rfl (fun m hm=>qt_e (walked_q (x:=({x with xs:=x.xs.set i (y.s_take n),used:=x.used-(y.c.pairs.length-n)}:HX)) (sep_has hm pmt)) (by rw[k1])) ?_))
   |refine a_n ?_
   |(refine k_V ?_;first|refine v_dreg ?_|refine v_skip ?_|(refine v_cd rfl (fun hb=>?_) (fun hb=>?_)<;>try(exfalso;omega))))
  ·refine fa_n (fun _ _=>rfl) (Pm.ent (fin ({x with xs:=x.xs.set i (y.s_take n),used:=x.used-(y.c.pairs.length-n),sub:=if((y.s_take n).c.pairs.length:Int)<x.sub then((y.s_take n).c.pairs.length:Int)else x.sub}:HX))) ⟨_,rfl,cutE _ _ rfl ?_⟩
   rw[if_pos hb.symm,ct,hs1]
   split<;>omega
  ·refine fa_n (fun _ _=>rfl) (Pm.ent pmt) ⟨_,rfl,cutE _ x.sub rfl ?_⟩
   rw[if_neg (fun e=>hb e.symm)];exact hs1.symm
 ·rw[if_neg c]
  repeat' (first
   |(refine k_L ?_;first|refine a_p rfl ?_|(refine k_l ?_;refine g_l rfl ?_)|(refine k_i ?_;refine g_i rfl rfl ?_)|(refine k_st ?_;refine g_st rfl rfl rfl rfl ?_)|(refine k_bx ?_;refine a_bx rfl rfl ?_)|(refine k_c ?_;refine a_cq rfl (fun m hm=>walked_q (x:=x) (sep_has hm pmt)) ?_))
   |refine a_n ?_
   |(refine k_V ?_;first|refine v_seq ?_|refine v_reg ?_|refine v_dreg ?_|refine v_skip ?_|(refine v_cd rfl (fun hb=>?_) (fun hb=>?_)<;>try(exfalso;omega))))
  ·have:=walked_sub h hi' hb.symm
   rw[gk,hs1]at this
   exact fa_n (fun _ _=>rfl) (Pm.ent (fin x (e1:=by simp[HX.hdr,Hdr.s_room,Hdr.s_used,Hdr.s_born,Hdr.s_phase,Hdr.s_hand,Hdr.s_sub,Hdr.s_per,Hdr.s_start,Hdr.s_rounds,Hdr.s_forced,Hdr.s_rd,Hdr.s_cd,Hdr.s_gd];omega))) ⟨x,rfl,rfl⟩
  ·exact fa_n (fun _ _=>rfl) (Pm.ent pmt) ⟨x,rfl,rfl⟩
theorem growE_a{a:Nat}{x:HX}{op n:Int}{ka kb kc j0:Nat}(h:Sound x.H)(ha:ka≤15)(hc:kc≤200)(hk0:(x.H.getR ka).kind=2)(hj0:(x.H.getR ka).at_=j0):FnA Tryd.prog 44 [eV a,.int .i64 j0,.agg #[.int .i64 op,.int .i64 ka,.int .i64 kb,.int .i64 kc,.int .i64 n]] (hp a x) (fun v As=>∃z:HX,v=an (doGrow x.H ⟨op,ka,kb,kc,n⟩).code (doGrow x.H ⟨op,ka,kb,kc,n⟩).num∧As=hp a z∧z.H=(doGrow x.H ⟨op,ka,kb,kc,n⟩).heap):=by
 have hl:=x.len
 have hnc:x.hdr.nc=x.xs.length:=rfl
 have hnr:x.hdr.nr=x.regs.length:=rfl
 have h16:x.regs.length=16:=h.r1.regs
 obtain⟨r1,r2⟩:=getR_ok h (r:=ka) (by omega) (by omega)
 obtain⟨b0,b1,b2,b3⟩:=r2 hk0
 rw[hj0]at b0 b1 b2 b3
 obtain⟨y,gy,gc⟩:=HX.at (x:=x) (i:=j0) (by omega)
 have gk:=HX.gc gy
 have hpl:=h.r2.pl (List.mem_of_getElem? gc)
 refine fnA_of (fun h=>fn44 (by simp) h) ?_
 obtain⟨f1,f2,f3,f4,f5,f6,f7⟩:=fits_ok h kc
 obtain⟨q1,q2⟩:=reg_len h f1 f2 f3 (r:=ka) (by omega) (by omega) hk0
 unfold doGrow
 dsimp only
 rw[hj0]at q2⊢
 rw[gk]at q2⊢
 by_cases c1:(y.c.pairs.length:Int)+kc>200
 ·rw[if_pos c1]
  repeat' (first
   |(refine k_L ?_;first|(refine k_ad ?_;refine g_ad rfl rfl ?_)|refine a_p rfl ?_|(refine k_l ?_;refine g_l rfl ?_)|(refine k_i ?_;refine g_i rfl rfl ?_)|(refine k_st ?_;refine g_sw rfl rfl rfl rfl (Nat.le_of_ble_eq_true rfl) ?_)|(refine k_al ?_;refine a_al ?_)|(refine k_bx ?_;refine a_bx rfl rfl ?_)|(refine k_c ?_;refine a_cq rfl (fun m hm=>codeE_q) ?_))
   |refine a_n ?_
   |(refine k_V ?_;first|refine v_seq ?_|refine v_reg ?_|refine v_dreg ?_|refine v_ret ?_|(refine v_cd rfl (fun hb=>?_) (fun hb=>?_)<;>try(exfalso;omega)))
   |refine s_r ?_
   |refine sk_zero ?_
   |refine sk_succ ?_
   |refine wk_nil ?_
   |refine wk_cons ?_)
  all_goals exact fa_r (fun _ _=>rfl) (Pm.ent pmt) ⟨x,rfl,rfl,rfl⟩
 ·rw[if_neg c1]
  generalize hF:x.H.fitsH kc=F at*
  by_cases c2:F.used+kc≤F.room
  ·rw[if_pos c2]
   have key:∀z:HX,z.H=F→∃(wm:Int) (i:Nat) (u:CS),z.regs[ka]?=some ⟨2,wm,i⟩∧z.xs[i]?=some u∧F.getC i=u.c∧(F.getR ka).at_=i∧i<F.cells.length∧z.xs.length=F.cells.length∧z.regs.length=16∧z.hdr.used=F.used:=by
    intro z hz
    have g16:z.regs.length=16:=by have:=f1.r1.regs;rw[←hz]at this;exact this
    obtain⟨v,gv⟩:∃w,z.regs[ka]?=some w:=⟨_,List.getElem?_eq_getElem (by omega)⟩
    have ev:F.getR ka=v:=by rw[←hz];exact getR_at gv
    obtain⟨_,s2⟩:=getR_ok f1 (r:=ka) (by omega) (by omega)
    rw[ev]at q1 s2⊢
    obtain⟨t0,t1,t2,t3⟩:=s2 q1
    obtain⟨i,hi⟩:=Int.eq_ofNat_of_zero_le t0
    obtain⟨vk,vn,vat⟩:=v
    dsimp only at q1 hi t1
    subst q1 hi
    have zl:=z.len
    rw[hz]at zl
    obtain⟨u,gu,gc'⟩:=HX.at (x:=z) (i:=i) (by omega)
    exact⟨vn,i,u,gv,gu,by rw[←hz];exact HX.gc gu,rfl,by omega,by omega,g16,congrArg Heap.used hz⟩
   repeat' (first
    |(refine k_L ?_;first|(refine k_ad ?_;refine g_ad rfl rfl ?_)|refine a_p rfl ?_|(refine k_l ?_;first|refine a_l rfl (by exact rd_t (rd_h (rd_sl (fun _=>rfl) gv rfl))) ?_|refine g_l rfl ?_)|(refine k_i ?_;refine g_i rfl rfl ?_)|(refine k_st ?_;refine g_sw rfl rfl rfl rfl (Nat.le_of_ble_eq_true rfl) ?_)|(refine k_al ?_;refine a_al ?_)|(refine k_bx ?_;refine a_bx rfl rfl ?_)|(refine k_c ?_;refine a_cq rfl (fun m hm=>codeE_q) ?_)|(refine g_c rfl (fits_a (x:=x) (u:=(kc:Int)) h (by omega)) (fun v As' hq=>?_);obtain⟨z,rfl,rfl,hz⟩:=hq;obtain⟨wm,i,u,gv,gu,gF,ei,hi,zl,z16,zu⟩:=key z (by rw[hz,hF]);have znc:z.hdr.nc=z.xs.length:=rfl;have znr:z.hdr.nr=z.regs.length:=rfl))
    |refine a_n ?_
    |(refine k_V ?_;first|refine v_seq ?_|refine v_reg ?_|refine v_dreg ?_|refine v_ret ?_|refine v_skip ?_|(refine v_cd rfl (fun hb=>?_) (fun hb=>?_)<;>try(exfalso;omega))|(refine v_cnd rfl (fun hb=>?_) (fun hb=>?_)<;>try(exfalso;omega)))
    |refine s_r ?_
    |refine sk_zero ?_
    |refine sk_succ ?_
    |refine wk_nil ?_
    |refine wk_cons ?_)
   ·exfalso;rw[hF]at hb<;>omega
   rw[hF]at hz
   have eL:u.c.pairs.length=y.c.pairs.length:=by rw[←gF,←ei];exact q2
   have i0:(F.getR ka).at_.toNat=i:=by omega
   have zb:=used_b (z:=z) (by rw[hz];exact f1)
   rw[i0]
   refine LA.ent (Bs:=[slA 6 pv u.d u.c.pairs,slA 8 csv z.cd z.xs,prA (z.xs.eraseIdx i),hdA a z.hdr,slA 3 wv z.rd z.regs,slA 1 iv z.gd z.gray]) ?_ ?_
   ·exact(Pm.ent (As1:=[clA z.cd z.xs,hdA a z.hdr,slA 3 wv z.rd z.regs,slA 1 iv z.gd z.gray]) pmt).trans ((cl_spl gu).trans (Pm.ent pmt))
   refine a_az (xs:=u.c.pairs) (e:=u.d) (k:=(kc:Int)) Pair.no pk_h pv_len (by omega) rfl rfl rfl (by omega) rfl (by omega) (fun e'=>?_)
   generalize hy:(⟨{u.c with pairs:=u.c.pairs++List.replicate kc Pair.no},e'.a,e'.cap⟩:CS)=un
   have ed:un.d=e'∧un.c.pairs=u.c.pairs++List.replicate kc Pair.no:=by rw[←hy];exact⟨rfl,rfl⟩
   repeat' (first
    |(refine k_L ?_;refine a_p rfl ?_)
    |refine a_n ?_)
   refine a_st rfl rfl rfl rfl (up_t (up_h (up_sl (j:=7) (e':=un) csv_len gu (Nat.le_of_ble_eq_true rfl) (by rw[←hy];rfl)))) ?_
   have zH:HX.H {z with xs:=z.xs.set i un,used:=z.used+kc}=F.growC i kc:=by
    unfold Heap.growC Heap.putC
    rw[gF,←hz,←hy]
    unfold HX.H
    simp only[List.map_set]
   repeat' (first
    |(refine k_L ?_;first|(refine k_ad ?_;refine g_ad rfl rfl ?_)|refine a_p rfl ?_|(refine k_l ?_;refine g_l rfl ?_)|(refine k_st ?_;refine g_st rfl rfl rfl rfl ?_))
    |refine a_n ?_
    |(refine k_V ?_;first|refine v_seq ?_|refine v_reg ?_|refine v_dreg ?_))
   refine LA.ent (Bs:=hp a ({z with xs:=z.xs.set i un,used:=z.used+kc}:HX)) ?_ ?_
   ·refine((Pm.ent (As1:=[slA 8 csv z.cd (z.xs.set i un),slA 6 pv un.d un.c.pairs,prA (z.xs.eraseIdx i),hdA a _,slA 3 wv z.rd z.regs,slA 1 iv z.gd z.gray]) (by rw[ed.1,ed.2];exact pmt)).trans (cl_joi (y':=un) (by omega))).trans (Pm.ent (fin ({z with xs:=z.xs.set i un,used:=z.used+kc}:HX) (e1:=by simp[HX.hdr,Hdr.s_room,Hdr.s_used,Hdr.s_born,Hdr.s_phase,Hdr.s_hand,Hdr.s_sub,Hdr.s_per,Hdr.s_start,Hdr.s_rounds,Hdr.s_forced,Hdr.s_rd,Hdr.s_cd,Hdr.s_gd])))
   have zS:Sound (HX.H {z with xs:=z.xs.set i un,used:=z.used+kc}):=by
    rw[zH]
    refine grow_sound f1 hi ?_ ?_ c2
    ·obtain⟨_,s2⟩:=getR_ok f1 (r:=ka) (by omega) (by omega)
     rw[ei]at s2
     exact(s2 q1).2.2.1
    ·rw[gF,eL];omega
   refine g_c rfl (pace_a (x:=({z with xs:=z.xs.set i un,used:=z.used+kc}:HX)) (u:=(kc:Int)) zS (by omega)) (fun v' As' hq=>?_)
   obtain⟨r,rfl,hr⟩:=hq
   repeat' (first
    |(refine k_L ?_;first|(refine k_st ?_;refine g_sw rfl rfl rfl rfl (Nat.le_of_ble_eq_true rfl) ?_)|(refine k_c ?_;refine a_cq rfl (fun m hm=>numE_q) ?_))
    |refine a_n ?_
    |(refine k_V ?_;first|refine v_seq ?_|refine v_reg ?_|refine v_ret ?_)
    |refine sk_zero ?_
    |refine sk_succ ?_
    |refine wk_nil ?_
    |refine wk_cons ?_)
   exact fa_r (fun _ _=>rfl) (Pm.ent pmt) ⟨r,rfl,rfl,by rw[hr];exact congrArg (fun K=>Heap.paceH K (kc:Int)) zH⟩
  ·rw[if_neg c2]
   repeat' (first
    |(refine k_L ?_;first|(refine k_ad ?_;refine g_ad rfl rfl ?_)|refine a_p rfl ?_|(refine k_l ?_;refine g_l rfl ?_)|(refine k_i ?_;refine g_i rfl rfl ?_)|(refine k_st ?_;refine g_sw rfl rfl rfl rfl (Nat.le_of_ble_eq_true rfl) ?_)|(refine k_al ?_;refine a_al ?_)|(refine k_bx ?_;refine a_bx rfl rfl ?_)|(refine k_c ?_;refine a_cq rfl (fun m hm=>codeE_q) ?_)|(refine g_c rfl (fits_a (x:=x) (u:=(kc:Int)) h (by omega)) (fun v As' hq=>?_);obtain⟨z,rfl,rfl,hz⟩:=hq))
    |refine a_n ?_
    |(refine k_V ?_;first|refine v_seq ?_|refine v_reg ?_|refine v_dreg ?_|refine v_ret ?_|refine v_skip ?_|(refine v_cd rfl (fun hb=>?_) (fun hb=>?_)<;>try(exfalso;omega))|(refine v_cnd rfl (fun hb=>?_) (fun hb=>?_)<;>try(exfalso;omega)))
    |refine s_r ?_
    |refine sk_zero ?_
    |refine sk_succ ?_
    |refine wk_nil ?_
    |refine wk_cons ?_)
   all_goals first
    |(exfalso;rw[hF]at hb;omega)
    |exact fa_r (fun _ _=>rfl) (Pm.ent pmt) ⟨z,rfl,rfl,by rw[hz,hF]⟩
    |trace_state
theorem doE_rd{a:Nat}{x:HX}{op n:Int}{ka kb kc:Nat}(h:Sound x.H)(ha:ka≤15)(hb:kb≤15)(ho:op=5∨op=6):FnA Tryd.prog 39 [eV a,.agg #[.int .i64 op,.int .i64 ka,.int .i64 kb,.int .i64 kc,.int .i64 n]] (hp a x) (fun v As=>∃z:HX,v=an (doPair x.H ⟨op,ka,kb,kc,n⟩).code (doPair x.H ⟨op,ka,kb,kc,n⟩).num∧As=hp a z∧z.H=(doPair x.H ⟨op,ka,kb,kc,n⟩).heap):=by
 have hl:=x.len
 have hnc:x.hdr.nc=x.xs.length:=rfl
 have hnr:x.hdr.nr=x.regs.length:=rfl
 have h16:x.regs.length=16:=h.r1.regs
 obtain⟨wa_,ga⟩:∃w,x.regs[ka]?=some w:=⟨_,List.getElem?_eq_getElem (by omega)⟩
 obtain⟨w,gw⟩:∃w,x.regs[kb]?=some w:=⟨_,List.getElem?_eq_getElem (by omega)⟩
 have er:x.H.getR kb=w:=getR_at gw
 obtain⟨r1,r2⟩:=getR_ok h (r:=kb) (by omega) (by omega)
 rw[er]at r1 r2
 refine fnA_of (fun h=>fn39 (by simp) h) ?_
 unfold doPair
 dsimp only
 rw[if_pos ho,er]
 by_cases hk:w.kind=2
 ·obtain⟨b0,b1,b2,b3⟩:=r2 hk
  obtain⟨j,hj⟩:=Int.eq_ofNat_of_zero_le b0
  have et:x.H.toI w=(j:Int):=by rw[toI_used hk b2,hj]
  have hwf:w.kind=2→0≤w.at_∧w.at_<x.H.cells.length:=fun _=>⟨b0,b1⟩
  rw[hj]at b1 b2
  obtain⟨y,gy,gc⟩:=HX.at (x:=x) (i:=j) (by omega)
  have gk:=HX.gc gy
  rw[if_neg (fun e=>e hk),hj,gk,Int.toNat_natCast]
  have hcj:x.H.cells[j]?=some y.c:=gc
  cases hpp:y.c.pairs[kc]? with
  |none=>
   have:=List.getElem?_eq_none_iff.1 hpp
   rcases ho with rfl|rfl
   ·repeat' (first
     |(refine k_L ?_;first|refine a_p rfl ?_|(refine k_l ?_;refine g_l rfl ?_)|(refine k_i ?_;refine g_i rfl rfl ?_)|(refine k_ls ?_;refine g_ls rfl ?_)|(refine k_st ?_;refine g_sw rfl rfl rfl rfl (Nat.le_of_ble_eq_true rfl) ?_)|(refine k_al ?_;refine a_al ?_)|(refine k_bx ?_;refine a_bx rfl rfl ?_)|(refine k_q ?_;refine a_q rfl (fun m hm=>qt_e (to_q (x:=x) (sep_has hm pmt) hwf) (by rw[et])) ?_)|(refine k_c ?_;refine a_cq rfl (fun m hm=>codeE_q) ?_))
     |refine a_n ?_
     |(refine k_V ?_;first|refine v_seq ?_|refine v_reg ?_|refine v_dreg ?_|refine v_bs ?_|refine v_ret ?_|refine v_skip ?_|refine v_ct rfl ?_|refine v_cf rfl ?_|(refine v_cd rfl (fun hb=>?_) (fun hb=>?_)<;>try(exfalso;omega)))
     |refine s_r ?_
     |refine b_r ?_
     |refine sk_zero ?_
     |refine sk_succ ?_
     |refine wk_nil ?_
     |refine wk_cons ?_)
    all_goals exact fa_r (fun _ _=>rfl) (Pm.ent pmt) ⟨x,rfl,rfl,rfl⟩
   ·repeat' (first
     |(refine k_L ?_;first|refine a_p rfl ?_|(refine k_l ?_;refine g_l rfl ?_)|(refine k_i ?_;refine g_i rfl rfl ?_)|(refine k_ls ?_;refine g_ls rfl ?_)|(refine k_st ?_;refine g_sw rfl rfl rfl rfl (Nat.le_of_ble_eq_true rfl) ?_)|(refine k_al ?_;refine a_al ?_)|(refine k_bx ?_;refine a_bx rfl rfl ?_)|(refine k_q ?_;refine a_q rfl (fun m hm=>qt_e (to_q (x:=x) (sep_has hm pmt) hwf) (by rw[et])) ?_)|(refine k_c ?_;refine a_cq rfl (fun m hm=>codeE_q) ?_))
     |refine a_n ?_
     |(refine k_V ?_;first|refine v_seq ?_|refine v_reg ?_|refine v_dreg ?_|refine v_bs ?_|refine v_ret ?_|refine v_skip ?_|refine v_ct rfl ?_|refine v_cf rfl ?_|(refine v_cd rfl (fun hb=>?_) (fun hb=>?_)<;>try(exfalso;omega)))
     |refine s_r ?_
     |refine b_r ?_
     |refine sk_zero ?_
     |refine sk_succ ?_
     |refine wk_nil ?_
     |refine wk_cons ?_)
    all_goals exact fa_r (fun _ _=>rfl) (Pm.ent pmt) ⟨x,rfl,rfl,rfl⟩
  |some p=>
   have:=(List.getElem?_eq_some_iff.1 hpp).1
   obtain⟨p1,p2,_⟩:=h.r4.pairs j y.c hcj kc p hpp
   have fk:p.key.kind=2→0≤p.key.at_∧p.key.at_<x.H.cells.length:=fun e=>p1.at e
   have fv:p.val.kind=2→0≤p.val.at_∧p.val.at_<x.H.cells.length:=fun e=>p2.at e
   rcases ho with rfl|rfl
   ·repeat' (first
     |(refine k_L ?_;first|refine a_p rfl ?_|(refine k_l ?_;refine g_l rfl ?_)|(refine k_i ?_;refine g_i rfl rfl ?_)|(refine k_ls ?_;refine g_ls rfl ?_)|(refine k_st ?_;first|refine g_st rfl rfl rfl rfl ?_|refine g_sw rfl rfl rfl rfl (Nat.le_of_ble_eq_true rfl) ?_)|(refine k_al ?_;refine a_al ?_)|(refine k_bx ?_;refine a_bx rfl rfl ?_)|(refine k_q ?_;first|refine a_q rfl (fun m hm=>qt_e (to_q (x:=x) (sep_has hm pmt) hwf) (by rw[et])) ?_|refine a_q rfl (fun m hm=>lead_q (x:=x.hs) (w:=p.key) (Has.ph (sep_has hm pmt)) fk) ?_)|(refine k_c ?_;refine a_cq rfl (fun m hm=>numE_q) ?_))
     |refine a_n ?_
     |(refine k_V ?_;first|refine v_seq ?_|refine v_reg ?_|refine v_dreg ?_|refine v_bs ?_|refine v_ret ?_|refine v_skip ?_|refine v_ct rfl ?_|refine v_cf rfl ?_|(refine v_cd rfl (fun hb=>?_) (fun hb=>?_)<;>try(exfalso;omega)))
     |refine sk_zero ?_
     |refine sk_succ ?_
     |refine wk_nil ?_
     |refine wk_cons ?_)
    all_goals exact fa_r (fun _ _=>rfl) (Pm.ent (fin ({x with regs:=x.regs.set ka (x.H.lead p.key)}:HX) (h1:=by simp[HX.hdr]))) ⟨_,rfl,rfl,rfl⟩
   ·repeat' (first
     |(refine k_L ?_;first|refine a_p rfl ?_|(refine k_l ?_;refine g_l rfl ?_)|(refine k_i ?_;refine g_i rfl rfl ?_)|(refine k_ls ?_;refine g_ls rfl ?_)|(refine k_st ?_;first|refine g_st rfl rfl rfl rfl ?_|refine g_sw rfl rfl rfl rfl (Nat.le_of_ble_eq_true rfl) ?_)|(refine k_al ?_;refine a_al ?_)|(refine k_bx ?_;refine a_bx rfl rfl ?_)|(refine k_q ?_;first|refine a_q rfl (fun m hm=>qt_e (to_q (x:=x) (sep_has hm pmt) hwf) (by rw[et])) ?_|refine a_q rfl (fun m hm=>lead_q (x:=x.hs) (w:=p.val) (Has.ph (sep_has hm pmt)) fv) ?_)|(refine k_c ?_;refine a_cq rfl (fun m hm=>numE_q) ?_))
     |refine a_n ?_
     |(refine k_V ?_;first|refine v_seq ?_|refine v_reg ?_|refine v_dreg ?_|refine v_bs ?_|refine v_ret ?_|refine v_skip ?_|refine v_ct rfl ?_|refine v_cf rfl ?_|(refine v_cd rfl (fun hb=>?_) (fun hb=>?_)<;>try(exfalso;omega)))
     |refine sk_zero ?_
     |refine sk_succ ?_
     |refine wk_nil ?_
     |refine wk_cons ?_)
    all_goals exact fa_r (fun _ _=>rfl) (Pm.ent (fin ({x with regs:=x.regs.set ka (x.H.lead p.val)}:HX) (h1:=by simp[HX.hdr]))) ⟨_,rfl,rfl,rfl⟩
 ·have et:=toI_no (H:=x.H) hk
  rw[if_pos hk]
  rcases ho with rfl|rfl
  ·repeat' (first
    |(refine k_L ?_;first|refine a_p rfl ?_|(refine k_l ?_;refine g_l rfl ?_)|(refine k_i ?_;refine g_i rfl rfl ?_)|(refine k_ls ?_;refine g_ls rfl ?_)|(refine k_st ?_;refine g_sw rfl rfl rfl rfl (Nat.le_of_ble_eq_true rfl) ?_)|(refine k_al ?_;refine a_al ?_)|(refine k_bx ?_;refine a_bx rfl rfl ?_)|(refine k_q ?_;refine a_q rfl (fun m hm=>qt_e (to_q (x:=x) (sep_has hm pmt) (fun e=>absurd e hk)) (by rw[et])) ?_)|(refine k_c ?_;refine a_cq rfl (fun m hm=>codeE_q) ?_))
    |refine a_n ?_
    |(refine k_V ?_;first|refine v_seq ?_|refine v_reg ?_|refine v_dreg ?_|refine v_bs ?_|refine v_ret ?_|refine v_skip ?_|refine v_ct rfl ?_)
    |refine s_r ?_
    |refine sk_zero ?_
    |refine sk_succ ?_
    |refine wk_nil ?_
    |refine wk_cons ?_)
   all_goals exact fa_r (fun _ _=>rfl) (Pm.ent pmt) ⟨x,rfl,rfl,rfl⟩
  ·repeat' (first
    |(refine k_L ?_;first|refine a_p rfl ?_|(refine k_l ?_;refine g_l rfl ?_)|(refine k_i ?_;refine g_i rfl rfl ?_)|(refine k_ls ?_;refine g_ls rfl ?_)|(refine k_st ?_;refine g_sw rfl rfl rfl rfl (Nat.le_of_ble_eq_true rfl) ?_)|(refine k_al ?_;refine a_al ?_)|(refine k_bx ?_;refine a_bx rfl rfl ?_)|(refine k_q ?_;refine a_q rfl (fun m hm=>qt_e (to_q (x:=x) (sep_has hm pmt) (fun e=>absurd e hk)) (by rw[et])) ?_)|(refine k_c ?_;refine a_cq rfl (fun m hm=>codeE_q) ?_))
    |refine a_n ?_
    |(refine k_V ?_;first|refine v_seq ?_|refine v_reg ?_|refine v_dreg ?_|refine v_bs ?_|refine v_ret ?_|refine v_ct rfl ?_|refine v_cf rfl ?_)
    |refine s_r ?_
    |refine sk_zero ?_
    |refine sk_succ ?_
    |refine wk_nil ?_
    |refine wk_cons ?_)
   all_goals exact fa_r (fun _ _=>rfl) (Pm.ent pmt) ⟨x,rfl,rfl,rfl⟩
end Go.Proofs.YtpleoapljeffiaaDoor.E
