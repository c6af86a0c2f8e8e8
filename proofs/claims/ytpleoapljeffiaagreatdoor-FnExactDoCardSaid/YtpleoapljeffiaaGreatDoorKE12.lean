/- A part of the proof. Conditions: none. -/
import Derived.Test.YtpleoapljeffiaaGreatDoorKE11
set_option linter.unusedVariables false
set_option linter.unusedSimpArgs false
set_option maxHeartbeats 8000000
set_option maxRecDepth 100000
namespace Go.Proofs.YtpleoapljeffiaaGreatDoor.E
open Go
open Classical
theorem tgt_root{H:Heap}{i:Nat}{c:Cell}(hc:H.cells[i]?=some c)(hr:c.state=1):H.tgt ⟨2,0,i⟩=some i:=by
 have hg:=getC_nat hc
 unfold Heap.tgt Heap.lead
 rw[hg]
 simp[hr]
theorem formed_at{H:Heap}{i:Nat}(h:i<H.cells.length):Formed H ⟨2,0,i⟩:=.inr (.inr ⟨rfl,rfl,by simp,by simpa using h⟩)
structure MkA (H:Heap) (S:Nat→Prop) (s:List Bool×List Int):Prop where
 ok:Mk H S s
 all:∀j:Nat,s.1[j]?=some true→(j:Int)∈s.2
theorem MkA.next{H:Heap}{S:Nat→Prop}{s:List Bool×List Int}{w:Word}(h:MkA H S s)(hw:∀j,H.tgt w=some j→j<H.cells.length∧S j):MkA H S (mkW H s w)∧Grow s (mkW H s w)∧Hit H (mkW H s w).1 w:=by
 obtain⟨a,b,c⟩:=mkW_ok h.ok hw
 exact⟨⟨a,fun j hj=>(b.new j hj).elim (fun h'=>b.old _ (h.all j h')) id⟩,b,c⟩
theorem mk0(H:Heap)(S:Nat→Prop):MkA H S (List.replicate H.cells.length false,[]):=by
 have key:∀j:Nat,(List.replicate H.cells.length false)[j]?=some true→False:=by
  intro j hj
  rw[List.getElem?_replicate]at hj
  split at hj<;>simp at hj
 exact⟨⟨by simp,fun j hj=>(key j hj).elim,fun g hg=>(by cases hg),by simp⟩,fun j hj=>(key j hj).elim⟩
theorem ent_new{α:Type}{f:α→List Value}{size:Nat}{R:List Asr}:Ent R (slA size f ⟨none,0⟩ []::R):=ent_of fun m h=>⟨emp,m,fun _=>.inl rfl,rfl,⟨.inl ⟨0,rfl,rfl,rfl⟩,fun _ _=>rfl⟩,h⟩
theorem v_kn{E:Env}{c:C}{Q:X→St→List Asr→Prop}{S:St}{As:List Asr}{p:Prop}(hk:Kn As p)(h:p→VA E c Q S As):VA E c Q S As:=⟨fun m hm=>(h (hk.out m hm)).out m hm⟩
theorem ent_pre{α:Type}{f:α→List Value}{size:Nat}(hs:∀x,(f x).length=size){d:D}{xs ys:List α}{R:List Asr}:Ent (slA size f d (xs++ys)::R) (slA size f d xs::R):=ent_h fun m h=>by
 have:=sl_take hs h (k:=xs.length) (by simp)
 rwa [List.take_left]at this
abbrev PQ:=(List Bool×List Int)×D
theorem reach_a{m:Mem}{a:Nat}{x:HX}(h:Has m (hp a x))(h1:R1 x.H)(h2:R2 x.H)(h4:R4 x.H):FnA Tryz.prog 157 [ptr a] [ro m] (fun v As=>∃sd:D,v=.slice sd.a (reachL x.H).length sd.cap∧As=[slA 1 bv sd (reachL x.H),ro m]):=by
 have hb0:=h.lens
 have hl:=x.len
 have hc1:=h1.cells
 have hc2:=h1.room
 refine fnA_of (fun h=>fn157 (by simp) h) ?_
 repeat' (first|refine xx ?_|(refine k_L ?_;first|(refine a_nw (vs:=[ptr a]) rfl rfl (fun p1=>?_))|(refine a_mk (f:=bv) (n:=(x.xs.length:Int)) (k:=(x.xs.length:Int)) false (fun _=>rfl) rfl rfl rfl (by omega) (by omega) (fun sd hsd=>?_)))|fail)
 refine a_nz (fun p2=>?_)
 repeat' (first|refine xx ?_|(refine k_L ?_;(refine g_sb rfl rfl rfl rfl ?_))|fail)
 refine a_nz (fun p3=>?_)
 repeat' (first|refine xx ?_|fail)
 have hm0:=mk0 x.H (Reached x.H)
 rw[hl]at hm0
 refine VA.ent (ent_new (f:=iv) (size:=1)) ?_
 have hreg:∀w,w∈x.H.regs→∀j,x.H.tgt w=some j→j<x.H.cells.length∧Reached x.H j:=fun w hw j hj=>⟨(tgt_lt h2 (h4.regs w hw).1 hj).1,.reg hw hj⟩
 refine g_range x.regs.length (fun q:PQ=>[(1,.v (ptr p1)),(3,.v (ptr p2)),(4,.v (ptr p3)),(5,.v (.func (.func 168) #[] #[ptr p1,ptr p2,ptr p3])),(23,.v (.slice x.rd.a x.regs.length x.rd.cap))]) (fun q=>seA a p1 p2 p3 sd q.2 q.1++[ro m])
  (fun i q=>MkA x.H (Reached x.H) q.1∧∀w,w∈x.H.regs.take i→Hit x.H q.1.1 w) (((List.replicate x.xs.length false,[]),⟨none,0⟩):PQ) ⟨hm0,by simp⟩ (fun i q hi hv=>?_) (fun q hv=>?_) (hent:=by
  show Ent _ (seA a p1 p2 p3 sd ⟨none,0⟩ (List.replicate x.xs.length false,[])++[ro m])
  simp only[seA,List.length_replicate]
  exact Pm.ent pmt)
 ·obtain⟨w,gw⟩:∃w,x.regs[i]?=some w:=⟨_,List.getElem?_eq_getElem hi⟩
  have hwm:w∈x.H.regs:=List.mem_of_getElem? gw
  obtain⟨n1,n2,n3⟩:=hv.1.next (hreg w hwm)
  repeat' (first|refine xx ?_|(refine k_L ?_;(refine a_cv rfl (fnOk_of Tryz.func168 rfl rfl) rfl (reach1_a (p1:=p1) (p2:=p2) (p3:=p3) (sd:=sd) (kd:=q.2) (w:=w) (S:=Reached x.H) h h1 h2 (h4.regs w hwm).1 hv.1.ok) pmt (fun v As' hq=>?_);obtain⟨kd',rfl⟩:=hq))|fail)
  refine r_nx ((mkW x.H q.1 w,kd'):PQ) ⟨n1,fun w' hw'=>?_⟩ (he:=Pm.ent pmt)
  rw[List.take_add_one,List.mem_append]at hw'
  rcases hw' with hw'|hw'
  ·exact(hv.2 w' hw').grow n2
  ·rw[show x.H.regs[i]?=some w from gw]at hw'
   simp only[Option.toList_some,List.mem_singleton]at hw'
   subst hw';exact n3
 ·obtain⟨hv1,hv2⟩:=hv
  rw[List.take_of_length_le (by exact Nat.le_refl _)]at hv2
  have hroot:∀(i:Nat) c,x.H.cells[i]?=some c→Root c→∀j,x.H.tgt ⟨2,0,i⟩=some j→j<x.H.cells.length∧Reached x.H j:=fun i c hc hr j hj=>by
   rw[tgt_root hc hr.1]at hj
   cases hj
   exact⟨(List.getElem?_eq_some_iff.1 hc).1,.root hc hr⟩
  repeat' (first|refine xx ?_|fail)
  refine g_range x.xs.length (fun q:PQ=>[(1,.v (ptr p1)),(3,.v (ptr p2)),(4,.v (ptr p3)),(5,.v (.func (.func 168) #[] #[ptr p1,ptr p2,ptr p3])),(36,.v (.slice x.cd.a x.xs.length x.cd.cap))]) (fun q=>seA a p1 p2 p3 sd q.2 q.1++[ro m])
   (fun i q=>MkA x.H (Reached x.H) q.1∧(∀w,w∈x.H.regs→Hit x.H q.1.1 w)∧∀(j:Nat) c,j<i→x.H.cells[j]?=some c→Root c→q.1.1[j]?=some true) q ⟨hv1,hv2,fun j c hj=>by omega⟩ (fun i q hi hv=>?_) (fun q hv=>?_) (hent:=Pm.ent pmt)
  ·obtain⟨y,gy,gc⟩:=HX.at hi
   obtain⟨hv1,hv2,hv3⟩:=hv
   by_cases hr:Root y.c
   ·obtain⟨n1,n2,n3⟩:=hv1.next (hroot i y.c gc hr)
    repeat' (first|refine xx ?_|(refine k_L ?_;first|(refine k_c ?_;refine a_cq rfl (fun m hm=>qt_e (root_q (y:=y)) (congrArg Value.bool (decide_eq_true hr))) ?_)|(refine a_cv rfl (fnOk_of Tryz.func168 rfl rfl) rfl (reach1_a (p1:=p1) (p2:=p2) (p3:=p3) (sd:=sd) (kd:=q.2) (w:=⟨2,0,i⟩) (S:=Reached x.H) h h1 h2 (formed_at (by omega)) hv1.ok) pmt (fun v As' hq=>?_);obtain⟨kd',rfl⟩:=hq))|fail)
    refine r_nx ((mkW x.H q.1 ⟨2,0,i⟩,kd'):PQ) ⟨n1,fun w' hw'=>(hv2 w' hw').grow n2,fun j c hj hc hrc=>?_⟩ (he:=Pm.ent pmt)
    by_cases e:j=i
    ·subst e
     exact n3 j (tgt_root gc hr.1)
    ·exact n2.mono j (hv3 j c (by omega) hc hrc)
   ·repeat' (first|refine xx ?_|(refine k_L ?_;(refine k_c ?_;refine a_cq rfl (fun m hm=>qt_e (root_q (y:=y)) (congrArg Value.bool (decide_eq_false hr))) ?_))|fail)
    refine r_nx q ⟨hv1,hv2,fun j c hj hc hrc=>?_⟩ (he:=Pm.ent pmt)
    by_cases e:j=i
    ·subst e;rw[gc]at hc;cases hc;exact absurd hrc hr
    ·exact hv3 j c (by omega) hc hrc
  ·obtain⟨hv1,hv2,hv3⟩:=hv
   have hfull:Full x.H q.1.1:=⟨hv2,fun i c hc hr=>hv3 i c (by have:=(List.getElem?_eq_some_iff.1 hc).1;omega) hc hr⟩
   have hcl:Closed x.H q.1.1 fun j=>(j:Int)∈q.1.2:=fun i c hi hn=>absurd (hv1.all i hi) hn
   have hok:=hv1.ok
   clear hv1 hv2 hv3
   repeat' (first|refine xx ?_|fail)
   refine v_blk ?_
   refine v_loop (fun q:PQ=>[(1,.v (ptr p1)),(3,.v (ptr p2)),(4,.v (ptr p3)),(5,.v (.func (.func 168) #[] #[ptr p1,ptr p2,ptr p3]))]) (fun q=>seA a p1 p2 p3 sd q.2 q.1++[ro m])
    (fun k q=>k=2*q.1.1.count false+q.1.2.length∧Mk x.H (Reached x.H) q.1∧Full x.H q.1.1∧Closed x.H q.1.1 fun j=>(j:Int)∈q.1.2) ⟨_,q,⟨rfl,rfl,rfl,rfl,trivial⟩,Pm.ent pmt,rfl,hok,hfull,hcl⟩ ?_
   clear hok hfull hcl
   rintro k ⟨⟨seen,stk⟩,kd⟩ ⟨rfl,hok,hfull,hcl⟩
   rcases(show stk=[]∨∃init g,stk=init++[g]from by
    by_cases hne:stk=[]
    ·exact .inl hne
    ·exact .inr ⟨_,_,(List.dropLast_concat_getLast hne).symm⟩)with rfl|⟨init,g,rfl⟩
   ·have e:=reach_end hok hfull (fun i c hi _=>hcl i c hi (by simp))
    simp only at e
    subst e
    repeat' (first|refine xx ?_|fail)
    exact fa_r (As':=[slA 1 bv sd (reachL x.H),ro m]) (fun _ _=>rfl) (Pm.ent pmt) ⟨sd,rfl,rfl⟩
   ·obtain⟨j,rfl,hj⟩:=hok.stk g (by simp)
    simp only at hj
    have hjl:j<x.xs.length:=by
     have:=(List.getElem?_eq_some_iff.1 hj).1
     have:=hok.len
     simp only at this
     omega
    obtain⟨y,gy,gc⟩:=HX.at hjl
    have hlen:(init++[(j:Int)]).length=init.length+1:=by simp
    have gj:(init++[(j:Int)])[(((init++[(j:Int)]).length:Int)-1).toNat]?=some (j:Int):=by
     rw[hlen,show(((init.length+1:Nat):Int)-1).toNat=init.length by omega];simp
    dsimp only at hok hfull hcl⊢
    have hcnt:=hok.cnt
    dsimp only at hcnt
    refine v_kn (p:=(init++[(j:Int)]).length≤kd.cap) (kn_t (kn_t (kn_t (kn_t (kn_h cp_sl))))) (fun hcap=>?_)
    have hpl:=h2.pl (List.mem_of_getElem? gc)
    have e0:(((init++[(j:Int)]).length:Int)-1).toNat=init.length:=by rw[hlen];omega
    repeat' (first|refine xx ?_|(refine xy ?_ ?_<;>intro hb<;>try(exfalso;omega))|(refine k_L ?_;first|(refine g_sb rfl rfl rfl rfl ?_)|(refine g_tk rfl rfl ?_))|fail)
    rotate_left
    ·exfalso;simp at hb
    rw[e0]
    refine VA.ent (Bs:=[slA 1 iv kd (init++[(j:Int)]),bx p1 [ptr a],bx p2 [.slice sd.a seen.length sd.cap],slA 1 bv sd seen,bx p3 [.slice kd.a init.length kd.cap],ro m]) (Pm.ent pmt) ?_
    refine VA.ent (ent_pre iv_len) ?_
    have hpr:=h4.pairs j y.c gc
    have hS:∀(k:Nat) p,y.c.pairs[k]?=some p→∀w,(w=p.key∨w=p.val)→Formed x.H w∧∀j',x.H.tgt w=some j'→j'<x.H.cells.length∧Reached x.H j':=fun k p hp w hw=>by
     have hf:Formed x.H w:=by
      rcases hw with rfl|rfl
      ·exact(hpr k p hp).1
      ·exact(hpr k p hp).2.1
     exact⟨hf,fun j' hj'=>⟨(tgt_lt h2 hf hj').1,.pair (hok.snd j hj) gc (List.mem_of_getElem? hp) hw hj'⟩⟩
    have hok0:Mk x.H (Reached x.H) (seen,init):=⟨hok.len,hok.snd,fun g hg=>hok.stk g (by simp[hg]),by have:=hok.cnt;simp only[List.length_append,List.length_singleton]at this⊢;omega⟩
    refine g_range y.c.pairs.length (fun q:PQ=>[(1,.v (ptr p1)),(3,.v (ptr p2)),(4,.v (ptr p3)),(5,.v (.func (.func 168) #[] #[ptr p1,ptr p2,ptr p3])),(71,.v (.slice y.d.a y.c.pairs.length y.d.cap))]) (fun q=>seA a p1 p2 p3 sd q.2 q.1++[ro m])
     (fun k q=>Mk x.H (Reached x.H) q.1∧(∀p,p∈y.c.pairs.take k→Hit x.H q.1.1 p.key∧Hit x.H q.1.1 p.val)∧Grow (seen,init) q.1) (((seen,init),kd):PQ) ⟨hok0,by simp,Grow.refl _⟩ (fun k q hk hv=>?_) (fun q hv=>?_) (hent:=Pm.ent pmt)
    ·obtain⟨p,gp⟩:∃p,y.c.pairs[k]?=some p:=⟨_,List.getElem?_eq_getElem hk⟩
     obtain⟨hv1,hv2,hv3⟩:=hv
     obtain⟨k1,k2⟩:=hS k p gp p.key (.inl rfl)
     obtain⟨v1,v2⟩:=hS k p gp p.val (.inr rfl)
     obtain⟨n1,n2,n3⟩:=mkW_ok hv1 k2
     obtain⟨o1,o2,o3⟩:=mkW_ok n1 v2
     repeat' (first|refine xx ?_|fail)
     refine a_cv rfl (fnOk_of Tryz.func168 rfl rfl) rfl (reach1_a (p1:=p1) (p2:=p2) (p3:=p3) (sd:=sd) (kd:=q.2) (w:=p.key) (S:=Reached x.H) h h1 h2 k1 hv1) pmt (fun v As' hq=>?_)
     obtain⟨kd',rfl⟩:=hq
     repeat' (first|refine xx ?_|fail)
     refine a_cv rfl (fnOk_of Tryz.func168 rfl rfl) rfl (reach1_a (p1:=p1) (p2:=p2) (p3:=p3) (sd:=sd) (kd:=kd') (w:=p.val) (S:=Reached x.H) h h1 h2 v1 n1) pmt (fun v As' hq=>?_)
     obtain⟨kd'',rfl⟩:=hq
     repeat' (first|refine xx ?_|(refine xy ?_ ?_<;>intro hb<;>try(exfalso;omega))|fail)
     refine r_nx ((mkW x.H (mkW x.H q.1 p.key) p.val,kd''):PQ) ⟨o1,fun p' hp'=>?_,(hv3.trans n2).trans o2⟩ (he:=Pm.ent pmt)
     rw[List.take_add_one,List.mem_append]at hp'
     rcases hp' with hp'|hp'
     ·exact⟨((hv2 p' hp').1.grow n2).grow o2,((hv2 p' hp').2.grow n2).grow o2⟩
     ·rw[gp]at hp'
      simp only[Option.toList_some,List.mem_singleton]at hp'
      subst hp';exact⟨n3.grow o2,o3⟩
    ·obtain⟨hv1,hv2,hv3⟩:=hv
     rw[List.take_of_length_le (Nat.le_refl _)]at hv2
     repeat' (first|refine xx ?_|fail)
     refine⟨_,q,?_,⟨rfl,rfl,rfl,rfl,trivial⟩,Pm.ent pmt,rfl,hv1,⟨fun w hw=>(hfull.regs w hw).grow hv3,fun i c hc hr=>hv3.mono i (hfull.roots i c hc hr)⟩,fun i c hi hn hc p hp=>?_⟩
     ·have:=hv3.msr
      simp only at this
      omega
     ·rcases hv3.new i hi with hi'|hi'
      ·by_cases e:i=j
       ·subst e;rw[gc]at hc;cases hc;exact hv2 p hp
       ·have:=hcl i c hi' (by
         intro hm
         rcases List.mem_append.1 hm with hm|hm
         ·exact hn (hv3.old _ hm)
         ·simp only[List.mem_singleton]at hm;omega) hc p hp
        exact⟨this.1.grow hv3,this.2.grow hv3⟩
      ·exact absurd hi' hn
theorem getC_some{H:Heap}{i:Int}(h0:0≤i)(h1:i<H.cells.length):H.cells[i.toNat]?=some (H.getC i):=by
 unfold Heap.getC
 rw[List.getD_eq_getElem?_getD,List.getElem?_eq_getElem (by omega)]
 rfl
theorem lead_ok{H:Heap}(h2:R2 H){w:Word}{mv:Prop}(hf:Formed H w)(hl:LeadsWell H w mv){j:Nat}(ht:H.tgt w=some j):∃c,H.cells[j]?=some c∧c.state=1∧¬Doomed H j:=by
 obtain⟨hj,hk,hat⟩:=tgt_lt h2 hf ht
 have hk2:=lead_kind.1 hk
 have hr:=hf.at hk2
 have hc:=getC_some hr.1 hr.2
 rcases hl hk2 with⟨h1,hd⟩|⟨h1,_⟩
 ·have e:H.lead w=w:=by unfold Heap.lead;rw[if_neg (by omega)]
  rw[e]at hat
  have hj2:w.at_.toNat=j:=by omega
  rw[hj2]at hc
  exact⟨_,hc,h1,by rw[←hat];exact hd⟩
 ·have e:(H.lead w).at_=(H.getC w.at_).to:=by unfold Heap.lead;rw[if_pos ⟨hk2,h1⟩]
  rcases h2.each _ _ hc with h|h|h
  ·have:=h.1;omega
  ·obtain⟨_,_,hp,ht,hs,_⟩:=h
   rw[←e,hat]at hs ht
   have hcj:=getC_some (H:=H) (i:=j) (by omega) (by omega)
   exact⟨_,hcj,hs,fun hd=>by have:=hd.1;omega⟩
  ·have:=h.1;omega
theorem reached_ok{H:Heap}(h2:R2 H)(h4:R4 H){j:Nat}(h:Reached H j):∃c,H.cells[j]?=some c∧c.state=1∧¬Doomed H j:=by
 induction h with
 |reg hw ht=>exact lead_ok h2 (h4.regs _ hw).1 (h4.regs _ hw).2 ht
 |root hc hr=>exact⟨_,hc,hr.1,fun hd=>h4.roots _ _ hc hd hr⟩
 | @pair i j c p w _ hc hp hw ht ih=>
   obtain⟨c',hc',hs,hd⟩:=ih
   obtain⟨k,hk⟩:=List.getElem?_of_mem hp
   have hpr:=h4.pairs _ _ hc k p hk
   rcases hw with rfl|rfl
   ·exact lead_ok h2 hpr.1 (hpr.2.2 hd).1 ht
   ·exact lead_ok h2 hpr.2.1 (hpr.2.2 hd).2 ht
noncomputable def sumT(H:Heap)(L:List Bool):Nat→Int
 |0=>0
 |i+1=>if L[i]?=some true then sumT H L i+(H.getC i).units else sumT H L i
theorem units_le{c:Cell}(h:c.pairs.length≤200):0≤c.units∧c.units≤201:=by unfold Cell.units;split<;>omega
theorem getC_pl{H:Heap}(h2:R2 H)(i:Nat):(H.getC i).pairs.length≤200:=by
 unfold Heap.getC
 by_cases h:i<H.cells.length
 ·have:H.cells.getD (i:Int).toNat ⟨0,0,0,0,0,0,0,[]⟩=H.cells[i]:=by simp[h]
  rw[this];exact h2.pl (List.getElem_mem h)
 ·have:H.cells.getD (i:Int).toNat ⟨0,0,0,0,0,0,0,[]⟩=⟨0,0,0,0,0,0,0,[]⟩:=by simp[h]
  rw[this];simp
theorem sumT_le{H:Heap}(h2:R2 H)(L:List Bool):∀i:Nat,0≤sumT H L i∧sumT H L i≤201*i
 |0=>by simp[sumT]
 |i+1=>by
  have:=sumT_le h2 L i
  have h:=units_le (getC_pl h2 i)
  unfold sumT
  split<;>omega
theorem sum_a{m:Mem}{a:Nat}{x:HX}{sd:D}{L:List Bool}(h:Has m (hp a x))(h1:R1 x.H)(h2:R2 x.H)(hL:L.length=x.xs.length):
 FnA Tryz.prog 155 [ptr a,.slice sd.a L.length sd.cap] [slA 1 bv sd L,ro m] (fun v As=>v=.int .i64 (sumT x.H L x.xs.length)∧As=[slA 1 bv sd L,ro m]):=by
 have hb0:=h.lens
 have hl:=x.len
 have hc1:=h1.cells
 have hc2:=h1.room
 refine fnA_of (fun h=>fn155 (by simp) h) ?_
 repeat' (first|refine xx ?_|fail)
 refine g_range x.xs.length (fun n:Int=>[(1,.v (.slice sd.a L.length sd.cap)),(5,.v (.int .i64 n)),(11,.v (.slice x.cd.a x.xs.length x.cd.cap))]) (fun _=>[slA 1 bv sd L,ro m]) (fun i n=>n=sumT x.H L i) 0 rfl (fun i n hi hn=>?_) (fun n hn=>?_)
 ·obtain⟨y,gy,gc⟩:=HX.at hi
  have gi:=getC_nat gc
  have hs:=sumT_le h2 L i
  have hu:=units_le (h2.pl (List.mem_of_getElem? gc))
  have hpl:=h2.pl (List.mem_of_getElem? gc)
  obtain⟨b,gb⟩:∃b,L[i]?=some b:=⟨_,List.getElem?_eq_getElem (by omega)⟩
  have e:sumT x.H L (i+1)=if b=true then n+y.c.units else n:=by
   show(if _ then _ else _)=_
   rw[gb,gi,←hn];simp
  cases b with
  |true=>
   repeat' (first|refine xx ?_|(refine k_L ?_;(refine k_c ?_;refine a_cq rfl (fun m hm=>units_q (y:=y) (by omega)) ?_))|fail)
   exact r_nx (n+y.c.units) (by rw[e,if_pos rfl])
  |false=>
   repeat' (first|refine xx ?_|fail)
   exact r_nx n (by rw[e,if_neg (by simp)])
 ·subst hn
  repeat' (first|refine xx ?_|fail)
  exact fa_r (As':=[slA 1 bv sd L,ro m]) (fun _ _=>rfl) (Pm.ent pmt) ⟨rfl,rfl⟩
theorem l2sum_a{m:Mem}{a:Nat}{x:HX}{sd:D}{L:List Bool}(h:Has m (hp a x))(h1:R1 x.H)(h2:R2 x.H)(hL:L.length=x.xs.length)(hu1:∀(i:Nat) c,L[i]?=some true→x.H.cells[i]?=some c→c.state=1):
 FnA Tryz.prog 61 [ptr a,.slice sd.a L.length sd.cap] [slA 1 bv sd L,ro m] (fun v As=>v=.int .i64 (sumT x.H L x.xs.length)∧As=[slA 1 bv sd L,ro m]):=by
 have hb0:=h.lens
 have hl:=x.len
 have hc1:=h1.cells
 have hc2:=h1.room
 rw[←hL]
 refine fnA_of (fun h=>fn61 (by simp) h) ?_
 repeat' (first|refine xx ?_|fail)
 refine g_range L.length (fun n:Int=>[(0,.v (ptr a)),(5,.v (.int .i64 n)),(8,.v (.slice sd.a L.length sd.cap))]) (fun _=>[slA 1 bv sd L,ro m]) (fun i n=>n=sumT x.H L i) 0 rfl (fun i n hi hn=>?_) (fun n hn=>?_)
 ·obtain⟨y,gy,gc⟩:=HX.at (x:=x) (i:=i) (by omega)
  have gi:=getC_nat gc
  have hs:=sumT_le h2 L i
  have hpl:=h2.pl (List.mem_of_getElem? gc)
  obtain⟨b,gb⟩:∃b,L[i]?=some b:=⟨_,List.getElem?_eq_getElem (by omega)⟩
  have e:sumT x.H L (i+1)=if b=true then n+y.c.units else n:=by
   show(if _ then _ else _)=_
   rw[gb,gi,←hn];simp
  cases b with
  |true=>
   have hst:=hu1 i y.c gb gc
   repeat' (first|refine xx ?_|fail)
   exact r_nx (n+(1+y.c.pairs.length)) (by rw[e,if_pos rfl];unfold Cell.units;rw[if_pos hst])
  |false=>
   repeat' (first|refine xx ?_|fail)
   exact r_nx n (by rw[e,if_neg (by simp)])
 ·subst hn
  repeat' (first|refine xx ?_|fail)
  exact fa_r (As':=[slA 1 bv sd L,ro m]) (fun _ _=>rfl) (Pm.ent pmt) ⟨rfl,rfl⟩
theorem reachL_len(H:Heap):(reachL H).length=H.cells.length:=by simp[reachL]
theorem l2mark_a{m:Mem}{a:Nat}{x:HX}{w:Word}{s:List Bool×List Int}{S:Nat→Prop}{sd kd:D}(h:Has m (hp a x))(h1:R1 x.H)(h2:R2 x.H)(hf:Formed x.H w)(hk:Mk x.H S s):
 FnA Tryz.prog 101 [ptr a,.slice sd.a s.1.length sd.cap,.slice kd.a s.2.length kd.cap,wa w] [slA 1 bv sd s.1,slA 1 iv kd s.2,ro m] (fun v As=>∃kd':D,v=.slice kd'.a (mkW x.H s w).2.length kd'.cap∧As=[slA 1 bv sd (mkW x.H s w).1,slA 1 iv kd' (mkW x.H s w).2,ro m]):=by
 have hc:=h1.cells
 have hr:=h1.room
 have hcn:=hk.cnt
 have hln:=hk.len
 refine fnA_of (fun h=>fn101 (by simp) h) ?_
 have hat:=fun hk2=>hf.at hk2
 by_cases hk2:w.kind=2
 ·have ht:x.H.tgt w=some (x.H.lead w).at_.toNat:=by unfold Heap.tgt;rw[if_pos (lead_kind.2 hk2)]
  have hl:=tgt_lt h2 hf ht
  generalize(x.H.lead w).at_.toNat=j at ht hl
  have e:x.H.lead w=⟨2,(x.H.lead w).num,(j:Int)⟩:=by rw[←hl.2.1,←hl.2.2]
  cases hb:s.1[j]? with
  |none=>rw[List.getElem?_eq_none_iff]at hb;omega
  |some b=>
   cases b with
   |true=>
    have em:mkW x.H s w=s:=by unfold mkW;rw[ht];simp[hb]
    repeat' (first|refine xx ?_|(refine k_L ?_;(refine k_c ?_;refine a_cq rfl (fun m hm=>qt_e (l1resolve_q (has_g h hm) hat) (congrArg wa e)) ?_))|fail)
    exact fa_r (As':=[slA 1 bv sd s.1,slA 1 iv kd s.2,ro m]) (fun _ _=>rfl) (Pm.ent pmt) ⟨kd,by rw[em],by rw[em]⟩
   |false=>
    have em:mkW x.H s w=(s.1.set j true,s.2++[(j:Int)]):=by unfold mkW;rw[ht];simp[hb]
    repeat' (first|refine xx ?_|(refine k_L ?_;first|(refine k_c ?_;refine a_cq rfl (fun m hm=>qt_e (l1resolve_q (has_g h hm) hat) (congrArg wa e)) ?_)|(refine g_ai rfl rfl (by omega) (fun e'=>?_)))|fail)
    exact fa_r (As':=[slA 1 bv sd (s.1.set j true),slA 1 iv e' (s.2++[(j:Int)]),ro m]) (fun _ _=>rfl) (Pm.ent pmt) ⟨e',by rw[em],by rw[em]⟩
 ·have ht:x.H.tgt w=none:=by unfold Heap.tgt;rw[if_neg (fun h=>hk2 (lead_kind.1 h))]
  have em:mkW x.H s w=s:=by unfold mkW;rw[ht]
  have hk3:¬(x.H.lead w).kind=2:=fun h=>hk2 (lead_kind.1 h)
  repeat' (first|refine xx ?_|(refine xy ?_ ?_<;>intro hb<;>try(exfalso;omega))|(refine k_L ?_;(refine k_c ?_;refine a_cq rfl (fun m hm=>l1resolve_q (has_g h hm) hat) ?_))|fail)
  all_goals first|exact absurd ‹(x.H.lead w).kind=2› hk3|skip
  exact fa_r (As':=[slA 1 bv sd s.1,slA 1 iv kd s.2,ro m]) (fun _ _=>rfl) (Pm.ent pmt) ⟨kd,by rw[em],by rw[em]⟩
noncomputable def rootsTo(H:Heap)(i:Nat):List Int:=((List.range i).filter fun k:Nat=>decide (Root (H.getC k))).map fun k:Nat=>(k:Int)
theorem rootsTo_next(H:Heap)(i:Nat):rootsTo H (i+1)=if Root (H.getC i)then rootsTo H i++[(i:Int)]else rootsTo H i:=by
 unfold rootsTo
 rw[List.range_succ,List.filter_append,List.map_append]
 by_cases h:Root (H.getC i)<;>simp[h]
theorem rootsTo_mem{H:Heap}{i:Nat}{g:Int}(h:g∈rootsTo H i):∃k:Nat,k<i∧Root (H.getC k)∧g=k:=by
 unfold rootsTo at h
 obtain⟨k,hk,e⟩:=List.mem_map.1 h
 rw[List.mem_filter,List.mem_range]at hk
 exact⟨k,hk.1,by simpa using hk.2,e.symm⟩
theorem rootsTo_len(H:Heap)(i:Nat):(rootsTo H i).length≤i:=by
 unfold rootsTo
 rw[List.length_map]
 exact Nat.le_trans (List.length_filter_le _ _) (by simp)
theorem swap_perm{L:List Int}:∀{k:Nat} {a b:Int},L[k]?=some a→L[k+1]?=some b→((L.set k b).set (k+1) a).Perm L:=by
 induction L with
 |nil=>intro k a b h;simp at h
 |cons c r ih=>
  intro k a b h1 h2
  cases k with
  |zero=>
   simp only[List.getElem?_cons_zero,Option.some.injEq]at h1
   subst h1
   cases r with
   |nil=>simp at h2
   |cons d r=>
    simp at h2
    subst h2
    exact List.Perm.swap _ _ _
  |succ k=>
   simp only[List.getElem?_cons_succ]at h1 h2
   exact(ih h1 h2).cons c
theorem l2wants_a{m:Mem}{a:Nat}{x:HX}(h:Has m (hp a x))(h1:R1 x.H):FnA Tryz.prog 134 [ptr a] [ro m] (fun v As=>∃(ld:D) (L:List Int),v=.slice ld.a L.length ld.cap∧L.Perm (rootsTo x.H x.H.cells.length)∧As=[slA 1 iv ld L,ro m]):=by
 have hb0:=h.lens
 have hl:=x.len
 have hc1:=h1.cells
 have hc2:=h1.room
 refine fnA_of (fun h=>fn134 (by simp) h) ?_
 repeat' (first|refine xx ?_|fail)
 refine VA.ent (ent_new (f:=iv) (size:=1)) ?_
 refine g_range x.xs.length (fun q:List Int×D=>[(0,.v (ptr a)),(3,.v (.slice q.2.a q.1.length q.2.cap)),(12,.v (.slice x.cd.a x.xs.length x.cd.cap))]) (fun q=>[slA 1 iv q.2 q.1,ro m]) (fun i q=>q.1.Perm (rootsTo x.H i)) (([],⟨none,0⟩):List Int×D) (by simp[rootsTo]) (fun i q hi hv=>?_) (fun q hv=>?_)
 ·obtain⟨L,ld⟩:=q
  dsimp only at hv⊢
  obtain⟨y,gy,gc⟩:=HX.at hi
  have gi:=getC_nat gc
  have hlen:=hv.length_eq
  have hle:=rootsTo_len x.H i
  have hnx:=rootsTo_next x.H i
  rw[gi]at hnx
  by_cases hr:Root y.c
  ·rw[if_pos hr]at hnx
   obtain⟨hr1,hr2⟩:=hr
   have hla:(L++[(i:Int)]).length=L.length+1:=by simp
   repeat' (first|refine xx ?_|(refine xy ?_ ?_<;>intro hb<;>try(exfalso;omega))|(refine k_L ?_;(refine g_ai rfl rfl (by omega) (fun e'=>?_)))|fail)
   all_goals
    refine v_blk ?_
    refine v_loop (fun q:List Int×Nat=>[(0,.v (ptr a)),(3,.v (.slice e'.a (L++[(i:Int)]).length e'.cap)),(6,.v (.int .i64 q.2)),(12,.v (.slice x.cd.a x.xs.length x.cd.cap)),(13,.v (.int .i64 x.xs.length)),(14,.v (.int .i64 i))]) (fun q=>[slA 1 iv e' q.1,ro m])
     (fun k q=>k=q.2∧q.2<q.1.length∧q.1.Perm (rootsTo x.H (i+1))) ⟨_,(L++[(i:Int)],L.length),⟨rfl,rfl,(by show SV.v (.int .i64 (((L++[(i:Int)]).length:Int)-1))=SV.v (.int .i64 (L.length:Int));rw[hla];congr 2;omega),rfl,rfl,rfl,trivial⟩,Ent.refl _,rfl,by simp,by rw[hnx];exact hv.append (List.Perm.refl _)⟩ ?_
    rintro k ⟨L',k2⟩ ⟨e,hk,hp⟩
    dsimp only at e hk hp⊢
    subst e
    have hlen2:=hp.length_eq
    have hle2:=rootsTo_len x.H (i+1)
    have hn0:(L++[(i:Int)]).length=L'.length:=by
     rw[hlen2,hnx];simp[hlen]
    rw[hn0]
    cases k with
    |zero=>
     repeat' (first|refine xx ?_|fail)
     exact r_nx ((L',e'):List Int×D) hp
    |succ k=>
     obtain⟨u,gu⟩:∃u,L'[k]?=some u:=⟨_,List.getElem?_eq_getElem (by omega)⟩
     obtain⟨v,gv⟩:∃v,L'[k+1]?=some v:=⟨_,List.getElem?_eq_getElem (by omega)⟩
     obtain⟨ju,hju,hru,eu⟩:=rootsTo_mem (hp.mem_iff.1 (List.mem_of_getElem? gu))
     obtain⟨jv,hjv,hrv,ev⟩:=rootsTo_mem (hp.mem_iff.1 (List.mem_of_getElem? gv))
     subst eu;subst ev
     obtain⟨yu,gyu,gcu⟩:=HX.at (x:=x) (i:=ju) (by omega)
     obtain⟨yv,gyv,gcv⟩:=HX.at (x:=x) (i:=jv) (by omega)
     have ek:(((k+1:Nat):Int)-1).toNat=k:=by omega
     have gu':L'[(((k+1:Nat):Int)-1).toNat]?=some (ju:Int):=by rw[ek];exact gu
     have gs:(L'.set (((k+1:Nat):Int)-1).toNat (jv:Int))[k+1]?=some (jv:Int):=by rw[ek,List.getElem?_set_ne (by omega)];exact gv
     repeat' (first|refine xx ?_|(refine xy ?_ ?_<;>intro hb<;>try(exfalso;omega))|fail)
     ·refine⟨_,((L'.set k (jv:Int)).set (k+1) (ju:Int),k),?_,⟨rfl,rfl,(by show SV.v (.int .i64 (((k+1:Nat):Int)-1))=SV.v (.int .i64 (k:Int));congr 2;omega),rfl,rfl,rfl,trivial⟩,(by rw[ek];exact Ent.refl _),rfl,(by simp only[List.length_set];omega),(swap_perm gu gv).trans hp⟩
      omega
     ·exact r_nx ((L',e'):List Int×D) hp
  ·rw[if_neg hr]at hnx
   unfold Root at hr
   repeat' (first|refine xx ?_|(refine xy ?_ ?_<;>intro hb<;>try(exfalso;omega))|fail)
   all_goals exact r_ct ((L,ld):List Int×D) (by rw[hnx];exact hv)
 ·obtain⟨L,ld⟩:=q
  dsimp only at hv⊢
  repeat' (first|refine xx ?_|fail)
  exact fa_r (As':=[slA 1 iv ld L,ro m]) (fun _ _=>rfl) (Pm.ent pmt) ⟨ld,L,rfl,by rw[hl];exact hv,rfl⟩
theorem l2mark_n{m:Mem}{a N:Nat}{x:HX}{w:Word}{s:List Bool×List Int}{S:Nat→Prop}{sd kd:D}(h:Has m (hp a x))(h1:R1 x.H)(h2:R2 x.H)(hf:Formed x.H w)(hk:Mk x.H S s)(hN:s.1.length=N):
 FnA Tryz.prog 101 [ptr a,.slice sd.a N sd.cap,.slice kd.a s.2.length kd.cap,wa w] [slA 1 bv sd s.1,slA 1 iv kd s.2,ro m] (fun v As=>∃kd':D,v=.slice kd'.a (mkW x.H s w).2.length kd'.cap∧As=[slA 1 bv sd (mkW x.H s w).1,slA 1 iv kd' (mkW x.H s w).2,ro m]):=by
 subst hN
 exact l2mark_a h h1 h2 hf hk
theorem grow_drop{H:Heap}{S:Nat→Prop}{s t:List Bool×List Int}{h:Nat}(hk:Mk H S s)(g:Grow s t)(hl:h≤s.2.length):
 (∀j:Nat,t.1[j]?=some true→s.1[j]?=some true∨(j:Int)∈t.2.drop h)∧∀j:Nat,(j:Int)∈s.2.drop h→(j:Int)∈t.2.drop h:=by
 obtain⟨e,he⟩:=g.pre
 have hd:t.2.drop h=s.2.drop h++e:=by rw[←he,List.drop_append_of_le_length hl]
 refine⟨fun j hj=>?_,fun j hj=>by rw[hd];exact List.mem_append_left _ hj⟩
 rcases g.new j hj with h'|h'
 ·exact .inl h'
 ·rw[←he]at h'
  rcases List.mem_append.1 h' with h'|h'
  ·obtain⟨k,e1,e2⟩:=hk.stk _ h'
   have:j=k:=by omega
   subst this;exact .inl e2
  ·right;rw[hd];exact List.mem_append_right _ h'
abbrev sqA(sd kd:D)(s:List Bool×List Int):List Asr:=[slA 1 bv sd s.1,slA 1 iv kd s.2]
theorem l2reach_a{m:Mem}{a:Nat}{x:HX}(h:Has m (hp a x))(h1:R1 x.H)(h2:R2 x.H)(h4:R4 x.H):FnA Tryz.prog 102 [ptr a] [ro m] (fun v As=>∃(sd kd:D) (Q:List Int),v=.tuple #[.slice sd.a (reachL x.H).length sd.cap,.slice kd.a Q.length kd.cap]∧As=[slA 1 bv sd (reachL x.H),ro m]):=by
 have hb0:=h.lens
 have hl:=x.len
 have hc1:=h1.cells
 have hc2:=h1.room
 refine fnA_of (fun h=>fn102 (by simp) h) ?_
 repeat' (first|refine xx ?_|(refine k_L ?_;(refine a_mk (f:=bv) (n:=(x.xs.length:Int)) (k:=(x.xs.length:Int)) false (fun _=>rfl) rfl rfl rfl (by omega) (by omega) (fun sd hsd=>?_)))|fail)
 have hm0:=mk0 x.H (Reached x.H)
 rw[hl]at hm0
 refine VA.ent (ent_new (f:=iv) (size:=1)) ?_
 have hreg:∀w,w∈x.H.regs→∀j,x.H.tgt w=some j→j<x.H.cells.length∧Reached x.H j:=fun w hw j hj=>⟨(tgt_lt h2 (h4.regs w hw).1 hj).1,.reg hw hj⟩
 refine g_range x.regs.length (fun q:PQ=>[(0,.v (ptr a)),(4,.v (.slice sd.a x.xs.length sd.cap)),(5,.v (.slice q.2.a q.1.2.length q.2.cap)),(22,.v (.slice x.rd.a x.regs.length x.rd.cap))]) (fun q=>sqA sd q.2 q.1++[ro m])
  (fun i q=>MkA x.H (Reached x.H) q.1∧∀w,w∈x.H.regs.take i→Hit x.H q.1.1 w) (((List.replicate x.xs.length false,[]),⟨none,0⟩):PQ) ⟨hm0,by simp⟩ (fun i q hi hv=>?_) (fun q hv=>?_) (hent:=Pm.ent pmt)
 ·obtain⟨w,gw⟩:∃w,x.regs[i]?=some w:=⟨_,List.getElem?_eq_getElem hi⟩
  have hwm:w∈x.H.regs:=List.mem_of_getElem? gw
  obtain⟨n1,n2,n3⟩:=hv.1.next (hreg w hwm)
  repeat' (first|refine xx ?_|fail)
  refine g_c rfl (l2mark_n (sd:=sd) (kd:=q.2) (w:=w) (s:=q.1) (S:=Reached x.H) h h1 h2 (h4.regs w hwm).1 hv.1.ok (hv.1.ok.len.trans hl)) (fun v As' hq=>?_)
  obtain⟨kd',rfl,rfl⟩:=hq
  repeat' (first|refine xx ?_|fail)
  refine r_nx ((mkW x.H q.1 w,kd'):PQ) ⟨n1,fun w' hw'=>?_⟩ (he:=Pm.ent pmt)
  rw[List.take_add_one,List.mem_append]at hw'
  rcases hw' with hw'|hw'
  ·exact(hv.2 w' hw').grow n2
  ·rw[show x.H.regs[i]?=some w from gw]at hw'
   simp only[Option.toList_some,List.mem_singleton]at hw'
   subst hw';exact n3
 ·obtain⟨hv1,hv2⟩:=hv
  rw[List.take_of_length_le (by exact Nat.le_refl _)]at hv2
  repeat' (first|refine xx ?_|fail)
  refine g_c rfl (l2wants_a h h1) (fun v As' hq=>?_)
  obtain⟨ld,L,rfl,hp,rfl⟩:=hq
  have hlL:=hp.length_eq
  have hleL:=rootsTo_len x.H x.H.cells.length
  have hLr:∀g,g∈L→∃(i:Nat) (c:Cell),g=i∧x.H.cells[i]?=some c∧Root c:=fun g hg=>by
   obtain⟨k,h1,h2,h3⟩:=rootsTo_mem (hp.mem_iff.1 hg)
   obtain⟨y,gy,gc⟩:=HX.at (x:=x) (i:=k) (by omega)
   rw[getC_nat gc]at h2
   exact⟨k,_,h3,gc,h2⟩
  have hrL:∀(i:Nat) c,x.H.cells[i]?=some c→Root c→(i:Int)∈L:=fun i c hc hr=>by
   refine hp.mem_iff.2 ?_
   unfold rootsTo
   refine List.mem_map.2 ⟨i,List.mem_filter.2 ⟨List.mem_range.2 (List.getElem?_eq_some_iff.1 hc).1,?_⟩,rfl⟩
   rw[getC_nat hc];simpa using hr
  repeat' (first|refine xx ?_|fail)
  refine g_range L.length (fun q:PQ=>[(0,.v (ptr a)),(4,.v (.slice sd.a x.xs.length sd.cap)),(5,.v (.slice q.2.a q.1.2.length q.2.cap)),(35,.v (.slice ld.a L.length ld.cap))]) (fun q=>sqA sd q.2 q.1++[slA 1 iv ld L,ro m])
   (fun i q=>MkA x.H (Reached x.H) q.1∧(∀w,w∈x.H.regs→Hit x.H q.1.1 w)∧∀j:Nat,(j:Int)∈L.take i→q.1.1[j]?=some true) q ⟨hv1,hv2,by simp⟩ (fun i q hi hv=>?_) (fun q hv=>?_) (hent:=Pm.ent pmt)
  ·obtain⟨hv1,hv2,hv3⟩:=hv
   obtain⟨g,gg⟩:∃g,L[i]?=some g:=⟨_,List.getElem?_eq_getElem hi⟩
   obtain⟨k,c,rfl,hkc,hr⟩:=hLr g (List.mem_of_getElem? gg)
   have hkl:=(List.getElem?_eq_some_iff.1 hkc).1
   obtain⟨n1,n2,n3⟩:=hv1.next (w:=⟨2,0,k⟩) (fun j hj=>by
    rw[tgt_root hkc hr.1]at hj
    cases hj
    exact⟨hkl,.root hkc hr⟩)
   repeat' (first|refine xx ?_|fail)
   refine g_c rfl (l2mark_n (sd:=sd) (kd:=q.2) (w:=⟨2,0,k⟩) (s:=q.1) (S:=Reached x.H) h h1 h2 (formed_at hkl) hv1.ok (hv1.ok.len.trans hl)) (fun v As' hq=>?_)
   obtain⟨kd',rfl,rfl⟩:=hq
   repeat' (first|refine xx ?_|fail)
   refine r_nx ((mkW x.H q.1 ⟨2,0,k⟩,kd'):PQ) ⟨n1,fun w' hw'=>(hv2 w' hw').grow n2,fun j hj=>?_⟩ (he:=Pm.ent pmt)
   rw[List.take_add_one,List.mem_append]at hj
   rcases hj with hj|hj
   ·exact n2.mono j (hv3 j hj)
   ·rw[gg]at hj
    simp only[Option.toList_some,List.mem_singleton]at hj
    have:j=k:=by omega
    subst this
    exact n3 j (tgt_root hkc hr.1)
  ·obtain⟨hv1,hv2,hv3⟩:=hv
   rw[List.take_of_length_le (Nat.le_refl _)]at hv3
   have hfull:Full x.H q.1.1:=⟨hv2,fun i c hc hr=>hv3 i (hrL i c hc hr)⟩
   have hcl:Closed x.H q.1.1 fun j=>(j:Int)∈q.1.2.drop 0:=fun i c hi hn=>absurd (hv1.all i hi) hn
   have hok:=hv1.ok
   clear hv1 hv2 hv3
   repeat' (first|refine xx ?_|fail)
   refine v_blk ?_
   refine v_loop (fun q:PQ×Nat=>[(0,.v (ptr a)),(4,.v (.slice sd.a x.xs.length sd.cap)),(5,.v (.slice q.1.2.a q.1.1.2.length q.1.2.cap)),(10,.v (.int .i64 q.2))]) (fun q=>sqA sd q.1.2 q.1.1++[ro m])
    (fun k q=>k=2*q.1.1.1.count false+q.1.1.2.length-q.2∧q.2≤q.1.1.2.length∧Mk x.H (Reached x.H) q.1.1∧Full x.H q.1.1.1∧Closed x.H q.1.1.1 fun j=>(j:Int)∈q.1.1.2.drop q.2) ⟨_,(q,0),⟨rfl,rfl,rfl,rfl,trivial⟩,Pm.ent pmt,rfl,Nat.zero_le _,hok,hfull,hcl⟩ ?_
   clear hok hfull hcl
   rintro k ⟨⟨⟨seen,stk⟩,kd⟩,hd⟩ ⟨rfl,hle,hok,hfull,hcl⟩
   have hcnt:=hok.cnt
   dsimp only at hok hfull hcl hle hcnt⊢
   by_cases hlt:hd<stk.length
   ·obtain⟨g,gg⟩:∃g,stk[hd]?=some g:=⟨_,List.getElem?_eq_getElem hlt⟩
    obtain⟨j,rfl,hj⟩:=hok.stk g (List.mem_of_getElem? gg)
    simp only at hj
    have hjl:j<x.xs.length:=by
     have:=(List.getElem?_eq_some_iff.1 hj).1
     have:=hok.len
     simp only at this
     omega
    obtain⟨y,gy,gc⟩:=HX.at hjl
    have hpl:=h2.pl (List.mem_of_getElem? gc)
    have hpr:=h4.pairs j y.c gc
    have hS:∀(k:Nat) p,y.c.pairs[k]?=some p→∀w,(w=p.key∨w=p.val)→Formed x.H w∧∀j',x.H.tgt w=some j'→j'<x.H.cells.length∧Reached x.H j':=fun k p hp w hw=>by
     have hf:Formed x.H w:=by
      rcases hw with rfl|rfl
      ·exact(hpr k p hp).1
      ·exact(hpr k p hp).2.1
     exact⟨hf,fun j' hj'=>⟨(tgt_lt h2 hf hj').1,.pair (hok.snd j hj) gc (List.mem_of_getElem? hp) hw hj'⟩⟩
    repeat' (first|refine xx ?_|(refine xy ?_ ?_<;>intro hb<;>try(exfalso;omega))|fail)
    refine g_range y.c.pairs.length (fun q:PQ=>[(0,.v (ptr a)),(4,.v (.slice sd.a x.xs.length sd.cap)),(5,.v (.slice q.2.a q.1.2.length q.2.cap)),(10,.v (.int .i64 hd)),(64,.v (.slice y.d.a y.c.pairs.length y.d.cap))]) (fun q=>sqA sd q.2 q.1++[ro m])
     (fun k q=>Mk x.H (Reached x.H) q.1∧(∀p,p∈y.c.pairs.take k→Hit x.H q.1.1 p.key∧Hit x.H q.1.1 p.val)∧Grow (seen,stk) q.1) (((seen,stk),kd):PQ) ⟨hok,by simp,Grow.refl _⟩ (fun k q hk hv=>?_) (fun q hv=>?_) (hent:=Pm.ent pmt)
    ·obtain⟨p,gp⟩:∃p,y.c.pairs[k]?=some p:=⟨_,List.getElem?_eq_getElem hk⟩
     obtain⟨hv1,hv2,hv3⟩:=hv
     obtain⟨k1,k2⟩:=hS k p gp p.key (.inl rfl)
     obtain⟨v1,v2⟩:=hS k p gp p.val (.inr rfl)
     obtain⟨n1,n2,n3⟩:=mkW_ok hv1 k2
     obtain⟨o1,o2,o3⟩:=mkW_ok n1 v2
     repeat' (first|refine xx ?_|fail)
     refine g_c rfl (l2mark_n (sd:=sd) (kd:=q.2) (w:=p.key) (s:=q.1) (S:=Reached x.H) h h1 h2 k1 hv1 (hv1.len.trans hl)) (fun v As' hq=>?_)
     obtain⟨kd',rfl,rfl⟩:=hq
     repeat' (first|refine xx ?_|fail)
     refine g_c rfl (l2mark_n (sd:=sd) (kd:=kd') (w:=p.val) (s:=mkW x.H q.1 p.key) (S:=Reached x.H) h h1 h2 v1 n1 (n1.len.trans hl)) (fun v As' hq=>?_)
     obtain⟨kd'',rfl,rfl⟩:=hq
     repeat' (first|refine xx ?_|fail)
     refine r_nx ((mkW x.H (mkW x.H q.1 p.key) p.val,kd''):PQ) ⟨o1,fun p' hp'=>?_,(hv3.trans n2).trans o2⟩ (he:=Pm.ent pmt)
     rw[List.take_add_one,List.mem_append]at hp'
     rcases hp' with hp'|hp'
     ·exact⟨((hv2 p' hp').1.grow n2).grow o2,((hv2 p' hp').2.grow n2).grow o2⟩
     ·rw[gp]at hp'
      simp only[Option.toList_some,List.mem_singleton]at hp'
      subst hp';exact⟨n3.grow o2,o3⟩
    ·obtain⟨hv1,hv2,hv3⟩:=hv
     rw[List.take_of_length_le (Nat.le_refl _)]at hv2
     obtain⟨gd1,gd2⟩:=grow_drop (h:=hd+1) hok hv3 hlt
     have hmsr:=hv3.msr
     obtain⟨ex,hex⟩:=hv3.pre
     have hlq:stk.length≤q.1.2.length:=by rw[←hex];simp
     dsimp only at gd1 gd2 hmsr
     repeat' (first|refine xx ?_|fail)
     refine⟨_,(q,hd+1),?_,⟨rfl,rfl,rfl,rfl,trivial⟩,Pm.ent pmt,rfl,?_,hv1,⟨fun w hw=>(hfull.regs w hw).grow hv3,fun i c hc hr=>hv3.mono i (hfull.roots i c hc hr)⟩,fun i c hi hn hc p hp=>?_⟩
     ·dsimp only;omega
     ·dsimp only;omega
     ·rcases gd1 i hi with hi'|hi'
      ·by_cases e:i=j
       ·subst e;rw[gc]at hc;cases hc;exact hv2 p hp
       ·have:=hcl i c hi' (by
         intro hm
         rw[List.drop_eq_getElem_cons hlt]at hm
         rcases List.mem_cons.1 hm with hm|hm
         ·have hgj:stk[hd]=(j:Int):=by
           have:=List.getElem?_eq_getElem hlt
           rw[gg]at this;exact(Option.some.inj this).symm
          rw[hgj]at hm;omega
         ·exact hn (gd2 i hm)) hc p hp
        exact⟨this.1.grow hv3,this.2.grow hv3⟩
      ·exact absurd hi' hn
   ·have e0:stk.drop hd=[]:=List.drop_eq_nil_of_le (by omega)
    have e:=reach_end hok hfull (fun i c hi _=>hcl i c hi (by rw[e0];simp))
    simp only at e
    subst e
    repeat' (first|refine xx ?_|(refine xy ?_ ?_<;>intro hb<;>try(exfalso;omega))|fail)
    exact fa_r (As':=[slA 1 bv sd (reachL x.H),ro m]) (fun _ _=>rfl) (Pm.ent pmt) ⟨sd,kd,stk,by rw[reachL_len,hl],rfl⟩
def KeyW(c:Cell):Prop:=IntKind.i64.wrap (BitVec.ofInt IntKind.i64.bits c.weak&&&BitVec.ofInt IntKind.i64.bits 1).toNat=0
def ValW(c:Cell):Prop:=IntKind.i64.wrap (BitVec.ofInt IntKind.i64.bits c.weak&&&BitVec.ofInt IntKind.i64.bits 2).toNat=0
inductive Held (H:Heap):Nat→Prop
 |reg {w:Word} {j:Nat}:w∈H.regs→H.tgt w=some j→Held H j
 |due {i:Nat} {c:Cell}:H.cells[i]?=some c→c.last=2→Held H i
 |key {i j:Nat} {c:Cell} {p:Pair}:Held H i→H.cells[i]?=some c→p∈c.pairs→KeyW c→H.tgt p.key=some j→Held H j
 |val {i j:Nat} {c:Cell} {p:Pair}:Held H i→H.cells[i]?=some c→p∈c.pairs→ValW c→(∀k,H.tgt p.key=some k→Held H k)→H.tgt p.val=some j→Held H j
noncomputable def heldL(H:Heap):List Bool:=(List.range H.cells.length).map fun i=>decide (Held H i)
structure HFull (H:Heap) (seen:List Bool):Prop where
 regs:∀w,w∈H.regs→Hit H seen w
 dues:∀(i:Nat) c,H.cells[i]?=some c→c.last=2→seen[i]?=some true
def RuleC(H:Heap)(seen:List Bool)(c:Cell):Prop:=∀p,p∈c.pairs→(KeyW c→Hit H seen p.key)∧(ValW c→Hit H seen p.key→Hit H seen p.val)
theorem held_end{H:Heap}{s:List Bool×List Int}(h:Mk H (Held H) s)(hf:HFull H s.1)(hc:∀(i:Nat) c,s.1[i]?=some true→H.cells[i]?=some c→RuleC H s.1 c):s.1=heldL H:=by
 have key:∀j,Held H j→s.1[j]?=some true:=by
  intro j hj
  induction hj with
  |reg h1 h2=>exact hf.regs _ h1 _ h2
  |due h1 h2=>exact hf.dues _ _ h1 h2
  |key _ h2 h3 h4 h5 ih=>exact(hc _ _ ih h2 _ h3).1 h4 _ h5
  |val _ h2 h3 h4 _ h6 ih ih2=>exact(hc _ _ ih h2 _ h3).2 h4 ih2 _ h6
 unfold heldL
 apply List.ext_getElem?
 intro i
 by_cases hi:i<H.cells.length
 ·rw[List.getElem?_map,List.getElem?_range hi]
  simp only[Option.map_some]
  have hl:i<s.1.length:=by rw[h.len];exact hi
  rw[List.getElem?_eq_getElem hl]
  congr 1
  cases hb:s.1[i]with
  |true=>
   have:Held H i:=h.snd i (by rw[List.getElem?_eq_getElem hl,hb])
   simp[this]
  |false=>
   have:¬Held H i:=fun hr=>by
    have:=key i hr
    rw[List.getElem?_eq_getElem hl,hb]at this
    cases this
   simp[this]
 ·rw[List.getElem?_eq_none (by rw[h.len];omega),List.getElem?_eq_none (by simp;omega)]
theorem heldL_len(H:Heap):(heldL H).length=H.cells.length:=by simp[heldL]
theorem heldL_at{H:Heap}{i:Nat}(h:(heldL H)[i]?=some true):Held H i:=by
 unfold heldL at h
 rw[List.getElem?_map]at h
 by_cases hi:i<H.cells.length
 ·rw[List.getElem?_range hi]at h
  simpa using h
 ·rw[List.getElem?_eq_none (by simp;omega)]at h
  cases h
def Same(s t:List Bool×List Int):Prop:=t=s∨s.2.length<t.2.length
theorem mkW_same(H:Heap)(s:List Bool×List Int)(w:Word):Same s (mkW H s w):=by
 unfold mkW
 split
 ·split
  ·right;simp
  ·exact .inl rfl
 ·exact .inl rfl
theorem Same.trans{s t u:List Bool×List Int}(h:Same s t)(k:Same t u)(g:t.2.length≤u.2.length)(g2:s.2.length≤t.2.length):Same s u:=by
 rcases h with rfl|h
 ·exact k
 ·right;omega
theorem Grow.len{s t:List Bool×List Int}(h:Grow s t):s.2.length≤t.2.length:=by
 obtain⟨e,he⟩:=h.pre
 rw[←he];simp
theorem held_ok{H:Heap}(h2:R2 H)(h4:R4 H){j:Nat}(h:Held H j):∃c,H.cells[j]?=some c∧c.state=1∧¬Doomed H j:=by
 induction h with
 |reg hw ht=>exact lead_ok h2 (h4.regs _ hw).1 (h4.regs _ hw).2 ht
 |due hc hl=>
  have hs:=last2 h2 hc hl
  exact⟨_,hc,hs,fun hd=>h4.roots _ _ hc hd ⟨hs,.inr hl⟩⟩
 | @key i j c p _ hc hp _ ht ih=>
   obtain⟨c',hc',hs,hd⟩:=ih
   obtain⟨k,hk⟩:=List.getElem?_of_mem hp
   have hpr:=h4.pairs _ _ hc k p hk
   exact lead_ok h2 hpr.1 (hpr.2.2 hd).1 ht
 | @val i j c p _ hc hp _ _ ht ih _=>
   obtain⟨c',hc',hs,hd⟩:=ih
   obtain⟨k,hk⟩:=List.getElem?_of_mem hp
   have hpr:=h4.pairs _ _ hc k p hk
   exact lead_ok h2 hpr.2.1 (hpr.2.2 hd).2 ht
def Lost(H:Heap)(w:Word):Prop:=∃j,H.tgt w=some j∧¬Held H j
def GoneP(H:Heap)(c:Cell)(p:Pair):Prop:=(¬KeyW c∧Lost H p.key)∨(¬ValW c∧Lost H p.val)
noncomputable def kept(H:Heap)(c:Cell)(ps:List Pair):List Pair:=ps.filter fun p=>decide (¬GoneP H c p)
noncomputable def nGone(H:Heap)(c:Cell)(ps:List Pair):Nat:=ps.countP fun p=>decide (GoneP H c p)
def Heap.walkedI(H:Heap):Int:=if H.phase=2∧H.gray≠[]then H.gray.headD 0 else if H.phase=5∧H.hand<H.cells.length then H.hand else-1
theorem kept_nil(H:Heap)(c:Cell):kept H c []=[]:=rfl
theorem kept_app(H:Heap)(c:Cell)(ps qs:List Pair):kept H c (ps++qs)=kept H c ps++kept H c qs:=by unfold kept;rw[List.filter_append]
theorem kept_one{H:Heap}{c:Cell}{p:Pair}:kept H c [p]=if GoneP H c p then[]else[p]:=by
 unfold kept
 by_cases h:GoneP H c p
 ·rw[if_pos h];simp[h]
 ·rw[if_neg h];simp[h]
theorem nGone_app(H:Heap)(c:Cell)(ps qs:List Pair):nGone H c (ps++qs)=nGone H c ps+nGone H c qs:=by unfold nGone;rw[List.countP_append]
theorem nGone_one{H:Heap}{c:Cell}{p:Pair}:nGone H c [p]=if GoneP H c p then 1 else 0:=by
 unfold nGone
 by_cases h:GoneP H c p
 ·rw[if_pos h];simp[h]
 ·rw[if_neg h];simp[h]
theorem nGone_le(H:Heap)(c:Cell)(ps:List Pair):nGone H c ps≤ps.length:=List.countP_le_length
theorem kept_len(H:Heap)(c:Cell)(ps:List Pair):(kept H c ps).length+nGone H c ps=ps.length:=by
 induction ps with
 |nil=>rfl
 |cons p r ih=>
  have e:p::r=[p]++r:=rfl
  rw[e,kept_app,nGone_app,kept_one,nGone_one,List.length_append,List.length_append]
  split<;>simp<;>omega
noncomputable def Heap.cutC(H K:Heap)(i:Nat):Heap:=
 {K with cells:=K.cells.set i {K.getC i with pairs:=kept H (K.getC i) (K.getC i).pairs},used:=K.used-nGone H (K.getC i) (K.getC i).pairs,sub:=if H.walkedI=i then K.sub-nGone H (K.getC i) ((K.getC i).pairs.take K.sub.toNat)else K.sub}
noncomputable def p1(H:Heap):Nat→Heap
 |0=>H
 |i+1=>if Held H i then H.cutC (p1 H i) i else p1 H i
noncomputable def g1(H:Heap):Nat→Nat
 |0=>0
 |i+1=>if Held H i then g1 H i+nGone H (H.getC i) (H.getC i).pairs else g1 H i
structure Like (H K:Heap):Prop where
 len:K.cells.length=H.cells.length
 cell:∀j:Int,(K.getC j).state=(H.getC j).state∧(K.getC j).to=(H.getC j).to∧(K.getC j).kind=(H.getC j).kind∧(K.getC j).weak=(H.getC j).weak∧(K.getC j).born=(H.getC j).born∧(K.getC j).color=(H.getC j).color
 regs:K.regs=H.regs
 gray:K.gray=H.gray
 phase:K.phase=H.phase
 hand:K.hand=H.hand
 room:K.room=H.room
 born:K.born=H.born
 per:K.per=H.per
 start:K.start=H.start
 rounds:K.rounds=H.rounds
 forced:K.forced=H.forced
theorem Like.refl(H:Heap):Like H H:=⟨rfl,fun _=>⟨rfl,rfl,rfl,rfl,rfl,rfl⟩,rfl,rfl,rfl,rfl,rfl,rfl,rfl,rfl,rfl,rfl⟩
theorem Like.trans{H K L:Heap}(h:Like H K)(k:Like K L):Like H L:=
 ⟨k.len.trans h.len,fun j=>⟨(k.cell j).1.trans (h.cell j).1,(k.cell j).2.1.trans (h.cell j).2.1,(k.cell j).2.2.1.trans (h.cell j).2.2.1,(k.cell j).2.2.2.1.trans (h.cell j).2.2.2.1,(k.cell j).2.2.2.2.1.trans (h.cell j).2.2.2.2.1,(k.cell j).2.2.2.2.2.trans (h.cell j).2.2.2.2.2⟩,k.regs.trans h.regs,k.gray.trans h.gray,k.phase.trans h.phase,k.hand.trans h.hand,k.room.trans h.room,k.born.trans h.born,k.per.trans h.per,k.start.trans h.start,k.rounds.trans h.rounds,k.forced.trans h.forced⟩
theorem Like.lead{H K:Heap}(h:Like H K)(w:Word):K.lead w=H.lead w:=by
 unfold Heap.lead
 rw[(h.cell _).1,(h.cell _).2.1]
theorem Like.tgt{H K:Heap}(h:Like H K)(w:Word):K.tgt w=H.tgt w:=by
 unfold Heap.tgt
 rw[h.lead]
theorem Like.walked{H K:Heap}(h:Like H K):K.walkedI=H.walkedI:=by
 unfold Heap.walkedI
 rw[h.phase,h.gray,h.hand,h.len]
theorem like_set{K:Heap}{i:Nat}{c:Cell}{L:Heap}(hi:i<K.cells.length)(hc:c.state=(K.getC i).state∧c.to=(K.getC i).to∧c.kind=(K.getC i).kind∧c.weak=(K.getC i).weak∧c.born=(K.getC i).born∧c.color=(K.getC i).color)(e:L.cells=K.cells.set i c)(er:L.regs=K.regs)(eg:L.gray=K.gray)(ep:L.phase=K.phase)(eh:L.hand=K.hand)
 (e1:L.room=K.room) (e2:L.born=K.born) (e3:L.per=K.per) (e4:L.start=K.start) (e5:L.rounds=K.rounds) (e6:L.forced=K.forced):Like K L:=by
 refine⟨by rw[e];simp,fun j=>?_,er,eg,ep,eh,e1,e2,e3,e4,e5,e6⟩
 have:L.getC j=if j.toNat=i then c else K.getC j:=by rw[getC_L,getC_L,e];exact getL_set hi
 rw[this]
 split
 ·rename_i ej
  have hcc:=getL_some (cs:=K.cells) (j:=i) (by omega) (by omega)
  have:K.getC j=K.getC i:=by
   rw[getC_L,getC_L];unfold getL;rw[ej];rfl
  rw[this];exact hc
 ·exact⟨rfl,rfl,rfl,rfl,rfl,rfl⟩
theorem p1_ok(H:Heap):∀i:Nat,i≤H.cells.length→Like H (p1 H i)∧(∀j:Nat,i≤j→(p1 H i).getC j=H.getC j)∧(∀j:Int,((p1 H i).getC j).last=(H.getC j).last)∧(p1 H i).used=H.used-g1 H i∧H.sub-g1 H i≤(p1 H i).sub∧(p1 H i).sub≤H.sub
 |0,_=>⟨Like.refl H,fun _ _=>rfl,fun _=>rfl,by simp[p1,g1],by simp[p1,g1],by simp[p1]⟩
 |i+1,hi=>by
  obtain⟨a,b,c,d,e,f⟩:=p1_ok H i (by omega)
  have hb:=b i (Nat.le_refl _)
  have hlt:i<(p1 H i).cells.length:=by rw[a.len];omega
  simp only[p1,g1]
  split
  ·have gC:∀j:Int,(H.cutC (p1 H i) i).getC j=if j.toNat=i then{(p1 H i).getC i with pairs:=kept H ((p1 H i).getC i) ((p1 H i).getC i).pairs}else(p1 H i).getC j:=fun j=>by
    rw[getC_L,getC_L];exact getL_set hlt
   have hn:=nGone_le H ((p1 H i).getC i) (((p1 H i).getC i).pairs.take (p1 H i).sub.toNat)
   have hs:nGone H ((p1 H i).getC i) (((p1 H i).getC i).pairs.take (p1 H i).sub.toNat)≤nGone H ((p1 H i).getC i) ((p1 H i).getC i).pairs:=by
    have:=nGone_app H ((p1 H i).getC i) (((p1 H i).getC i).pairs.take (p1 H i).sub.toNat) (((p1 H i).getC i).pairs.drop (p1 H i).sub.toNat)
    rw[List.take_append_drop]at this;omega
   rw[hb]at hs
   refine⟨a.trans (like_set (c:={(p1 H i).getC i with pairs:=kept H ((p1 H i).getC i) ((p1 H i).getC i).pairs}) hlt ⟨rfl,rfl,rfl,rfl,rfl,rfl⟩ rfl rfl rfl rfl rfl rfl rfl rfl rfl rfl rfl),fun j hj=>?_,fun j=>?_,?_,?_,?_⟩
   ·rw[gC,if_neg (by omega)];exact b j (by omega)
   ·rw[gC]
    split
    ·rename_i ej
     have:(p1 H i).getC j=(p1 H i).getC i:=by rw[getC_L,getC_L];unfold getL;rw[ej];rfl
     rw[←c j,this]
    ·exact c j
   ·show(p1 H i).used-(nGone H ((p1 H i).getC i) ((p1 H i).getC i).pairs:Nat)=_
    rw[hb,d];omega
   ·show _≤(if H.walkedI=i then(p1 H i).sub-(nGone H ((p1 H i).getC i) (((p1 H i).getC i).pairs.take (p1 H i).sub.toNat):Nat)else(p1 H i).sub)
    rw[hb]
    split<;>omega
   ·show(if H.walkedI=i then(p1 H i).sub-(nGone H ((p1 H i).getC i) (((p1 H i).getC i).pairs.take (p1 H i).sub.toNat):Nat)else(p1 H i).sub)≤_
    split<;>omega
  ·exact⟨a,fun j hj=>b j (by omega),c,d,e,f⟩
theorem g1_le{H:Heap}(h2:R2 H):∀i:Nat,g1 H i≤200*i
 |0=>by simp[g1]
 |i+1=>by
  have:=g1_le h2 i
  have hn:=nGone_le H (H.getC i) (H.getC i).pairs
  have hp:=getC_pl h2 i
  simp only[g1]
  split<;>omega
noncomputable def p2(H:Heap):Nat→Heap
 |0=>p1 H H.cells.length
 |i+1=>if ¬Held H i∧(H.getC i).last=1 then{p2 H i with cells:=(p2 H i).cells.set i {(p2 H i).getC i with last:=2}}else p2 H i
noncomputable def d2(H:Heap):Nat→Nat
 |0=>0
 |i+1=>if ¬Held H i∧(H.getC i).last=1 then d2 H i+1 else d2 H i
theorem p2_ok(H:Heap):∀i:Nat,i≤H.cells.length→Like H (p2 H i)∧(∀j:Nat,i≤j→(p2 H i).getC j=(p1 H H.cells.length).getC j)∧(p2 H i).used=H.used-g1 H H.cells.length∧(p2 H i).sub=(p1 H H.cells.length).sub∧∀j:Int,((p2 H i).getC j).pairs=((p1 H H.cells.length).getC j).pairs
 |0,_=>by
  obtain⟨a,b,c,d,e,f⟩:=p1_ok H H.cells.length (Nat.le_refl _)
  exact⟨a,fun _ _=>rfl,d,rfl,fun _=>rfl⟩
 |i+1,hi=>by
  obtain⟨a,b,c,d,e⟩:=p2_ok H i (by omega)
  have hlt:i<(p2 H i).cells.length:=by rw[a.len];omega
  simp only[p2]
  split
  ·have gC:∀j:Int,(Heap.getC {p2 H i with cells:=(p2 H i).cells.set i {(p2 H i).getC i with last:=2}} j)=if j.toNat=i then{(p2 H i).getC i with last:=2}else(p2 H i).getC j:=fun j=>by
    rw[getC_L,getC_L];exact getL_set hlt
   refine⟨a.trans (like_set (c:={(p2 H i).getC i with last:=2}) hlt ⟨rfl,rfl,rfl,rfl,rfl,rfl⟩ rfl rfl rfl rfl rfl rfl rfl rfl rfl rfl rfl),fun j hj=>?_,c,d,fun j=>?_⟩
   ·rw[gC,if_neg (by omega)];exact b j (by omega)
   ·rw[gC]
    split
    ·rename_i ej
     have:(p2 H i).getC j=(p2 H i).getC i:=by rw[getC_L,getC_L];unfold getL;rw[ej];rfl
     rw[←e j,this]
    ·exact e j
  ·exact⟨a,fun j hj=>b j (by omega),c,d,e⟩
theorem d2_le(H:Heap):∀i:Nat,d2 H i≤i
 |0=>by simp[d2]
 |i+1=>by
  have:=d2_le H i
  simp only[d2]
  split<;>omega
noncomputable def Heap.settleH(H:Heap):Heap:=p2 H H.cells.length
theorem kept_at(H:Heap)(c:Cell):∀(ps:List Pair) (n k:Nat) (p:Pair),(kept H c ps)[k]?=some p→∃k':Nat,ps[k']?=some p∧(k<(kept H c (ps.take n)).length↔k'<n)
 |[],n,k,p,h=>by simp[kept_nil]at h
 |a::r,n,k,p,h=>by
  have e:a::r=[a]++r:=rfl
  rw[e,kept_app,kept_one]at h
  have ht:∀n,(a::r).take (n+1)=[a]++r.take n:=fun n=>rfl
  by_cases hg:GoneP H c a
  ·rw[if_pos hg,List.nil_append]at h
   cases n with
   |zero=>
    obtain⟨k',a1,a2⟩:=kept_at H c r 0 k p h
    exact⟨k'+1,a1,by simp[kept_nil]⟩
   |succ n=>
    obtain⟨k',a1,a2⟩:=kept_at H c r n k p h
    refine⟨k'+1,a1,?_⟩
    rw[ht,kept_app,kept_one,if_pos hg,List.nil_append];omega
  ·rw[if_neg hg]at h
   cases k with
   |zero=>
    simp only[List.cons_append,List.nil_append,List.getElem?_cons_zero,Option.some.injEq]at h
    subst h
    refine⟨0,rfl,?_⟩
    cases n with
    |zero=>simp[kept_nil]
    |succ n=>rw[ht,kept_app,kept_one,if_neg hg];simp
   |succ k=>
    simp only[List.cons_append,List.nil_append,List.getElem?_cons_succ]at h
    cases n with
    |zero=>
     obtain⟨k',a1,a2⟩:=kept_at H c r 0 k p h
     exact⟨k'+1,a1,by simp[kept_nil]⟩
    |succ n=>
     obtain⟨k',a1,a2⟩:=kept_at H c r n k p h
     refine⟨k'+1,a1,?_⟩
     rw[ht,kept_app,kept_one,if_neg hg,List.length_append]
     simp only[List.length_singleton];omega
theorem walked_sub{K:Heap}(h:Sound K){i:Nat}(hi:i<K.cells.length)(hw:K.walkedI=i):K.sub≤(K.getC i).pairs.length:=by
 unfold Heap.walkedI at hw
 split at hw
 ·rename_i h2
  have h6:=(r6_2 h2.1).1 h.r6
  cases hg:K.gray with
  |nil=>exact absurd hg h2.2
  |cons a r=>
   rw[hg]at h6 hw
   simp only[List.headD_cons]at hw
   rw[←hw];exact h6.2
 ·split at hw
  ·rename_i h5
   have h6:=(r6_5 h5.1).1 h.r6
   rw[←hw]
   split at h6
   ·exact h6
   ·rw[h6];omega
  ·omega
theorem thin_sound{H K:Heap}{i:Nat}(l:Like H K)(h:Sound K)(hi:i<K.cells.length):Sound (H.cutC K i)∧Like K (H.cutC K i):=by
 have hc:=getL_some (cs:=K.cells) (j:=i) (by omega) (by omega)
 rw[show((i:Int)).toNat=i by omega,←getC_L]at hc
 have hw:=l.walked
 have hsb:=fun e=>walked_sub h hi e
 generalize ec:K.getC i=c at hc hsb
 have hsub:(H.cutC K i).sub=if K.walkedI=i then((kept H c (c.pairs.take K.sub.toNat)).length:Int)else K.sub:=by
  show(if H.walkedI=i then _ else _)=_
  rw[←hw,ec]
  split
  ·rename_i e
   have:=kept_len H c (c.pairs.take K.sub.toNat)
   rw[List.length_take]at this
   have h1:=hsb e
   have h2:=h.r1.sub
   omega
  ·rfl
 have hcs:(H.cutC K i).cells=K.cells.set i {c with pairs:=kept H c c.pairs}:=by rw[←ec];rfl
 have gC:∀j:Int,(H.cutC K i).getC j=if j.toNat=i then{c with pairs:=kept H c c.pairs}else K.getC j:=fun j=>by
  rw[getC_L,getC_L,hcs];exact getL_set hi
 have hl:(H.cutC K i).cells.length=K.cells.length:=by rw[hcs];simp
 have lk:Like K (H.cutC K i):=like_set hi (c:={c with pairs:=kept H c c.pairs}) (by rw[ec];exact⟨rfl,rfl,rfl,rfl,rfl,rfl⟩) hcs rfl rfl rfl rfl rfl rfl rfl rfl rfl rfl
 have hkl:=kept_len H c c.pairs
 have hnil:c.pairs=[]→kept H c c.pairs=[]:=fun e=>by rw[e];rfl
 have hbr:Bare c→Bare {c with pairs:=kept H c c.pairs}:=fun⟨a1,a2,a3,a4,a5,a6⟩=>⟨a1,a2,a3,a4,a5,hnil a6⟩
 have hor:∀(j:Nat) d,(H.cutC K i).cells[j]?=some d→∃d0,K.cells[j]?=some d0∧(j=i∧d0=c∧d={c with pairs:=kept H c c.pairs}∨j≠i∧d=d0):=fun j d hd=>by rw[hcs]at hd;exact orig hc hd
 have hst:∀j:Int,((H.cutC K i).getC j).state=(K.getC j).state:=fun j=>(lk.cell j).1
 have hph:(H.cutC K i).phase=K.phase:=lk.phase
 have hhd:(H.cutC K i).hand=K.hand:=lk.hand
 have hgr:(H.cutC K i).gray=K.gray:=lk.gray
 have hdm:∀j,Doomed (H.cutC K i) j↔Doomed K j:=fun j=>by unfold Doomed;rw[hph,hst,(lk.cell j).2.2.2.2.2,hhd]
 have hwh:∀w,White (H.cutC K i) w↔White K w:=fun w=>by unfold White;rw[(lk.cell _).2.2.2.2.2]
 have same:∀(j:Nat) d d0,(j=i∧d0=c∧d={c with pairs:=kept H c c.pairs}∨j≠i∧d=d0)→d.state=d0.state∧d.to=d0.to∧d.born=d0.born∧d.color=d0.color∧d.last=d0.last:=fun j d d0 x=>by
  rcases x with⟨_,rfl,rfl⟩|⟨_,rfl⟩<;>exact⟨rfl,rfl,rfl,rfl,rfl⟩
 --a pair that stays,and the place where it stood
 have hat:∀(j:Nat) d d0,(j=i∧d0=c∧d={c with pairs:=kept H c c.pairs}∨j≠i∧d=d0)→∀(k:Nat) p,d.pairs[k]?=some p→∃k':Nat,d0.pairs[k']?=some p∧(K.walkedI=j→((k:Int)<(H.cutC K i).sub↔(k':Int)<K.sub)):=fun j d d0 x k p hp=>by
  rcases x with⟨rfl,rfl,rfl⟩|⟨hj,rfl⟩
  ·obtain⟨k',a1,a2⟩:=kept_at H d0 d0.pairs K.sub.toNat k p hp
   refine⟨k',a1,fun e=>?_⟩
   rw[hsub,if_pos e]
   have:=h.r1.sub
   omega
  ·refine⟨k,hp,fun e=>?_⟩
   rw[hsub,if_neg (by omega)]
 have hsle:(H.cutC K i).sub≤K.sub∧0≤(H.cutC K i).sub:=by
  rw[hsub]
  have:=h.r1.sub
  split
  ·have:=kept_len H c (c.pairs.take K.sub.toNat)
   rw[List.length_take]at this
   omega
  ·omega
 have hs6:∀j:Int,K.walkedI=j→0≤j→j<K.cells.length→K.sub≤(K.getC j).pairs.length→(H.cutC K i).sub≤((H.cutC K i).getC j).pairs.length:=fun j e j0 j1 hs=>by
  rw[hsub,gC]
  by_cases ej:j.toNat=i
  ·rw[if_pos ej,if_pos (by omega)]
   have:=kept_app H c (c.pairs.take K.sub.toNat) (c.pairs.drop K.sub.toNat)
   rw[List.take_append_drop]at this
   show _≤((kept H c c.pairs).length:Int)
   rw[this,List.length_append];omega
  ·rw[if_neg ej,if_neg (by omega)];exact hs
 refine⟨⟨?_,⟨fun j d hd=>?_,fun j k d e hd he hjk h1 h2=>?_,fun j k d e hd he hjk h1 h2=>?_⟩,?_,⟨fun w hw=>?_,fun j d hd hdo hr=>?_,fun j d hd k p hp=>?_⟩,⟨fun hm=>?_,fun hm=>?_⟩,?_,fun hm j d hd=>?_,fun hp j d hd hj=>?_⟩,lk⟩
 ·have:=h.r1.sub
  exact{h.r1 with cells:=by rw[hl];exact h.r1.cells,gray:=by rw[hl];exact h.r1.gray,hand:=by rw[hl];exact h.r1.hand,sub:=by omega}
 ·obtain⟨d0,hd0,x⟩:=hor j d hd
  have hmv:∀d1,MovedOk K j d0→(d1.state=d0.state∧(Bare d0→Bare d1)∧d1.to=d0.to)→MovedOk (H.cutC K i) j d1:=fun d1 ⟨a1,a2,a3,a4,a5,a6⟩ ⟨b1,b2,b3⟩=>
   ⟨b1.trans a1,b2 a2,by rw[hph];exact a3,by rw[b3];exact a4,by rw[b3,hst];exact a5,fun hp k k0 k1=>by rw[hst];exact a6 (by rw[←hph];exact hp) k k0 (by rw[←b3];exact k1)⟩
  rcases x with⟨rfl,rfl,rfl⟩|⟨_,rfl⟩
  ·rcases h.r2.each j d0 hd0 with h1|h1|h1
   ·exact .inl ⟨h1.1,hbr h1.2.1,h1.2.2⟩
   ·exact .inr (.inl (hmv _ h1 ⟨rfl,hbr,rfl⟩))
   ·obtain⟨a1,a2,a3,a4,a5,a6,a7,a8⟩:=h1
    exact .inr (.inr ⟨a1,a2,a3,a4,a5,a6,a7,by show(kept H d0 d0.pairs).length≤200;omega⟩)
  ·rcases h.r2.each j d hd0 with h1|h1|h1
   ·exact .inl h1
   ·exact .inr (.inl (hmv _ h1 ⟨rfl,id,rfl⟩))
   ·exact .inr (.inr h1)
 ·obtain⟨d0,hd0,x⟩:=hor j d hd
  obtain⟨e0,he0,y⟩:=hor k e he
  have s1:=same _ _ _ x
  have s2:=same _ _ _ y
  rw[s1.2.2.1,s2.2.2.1]
  exact h.r2.born j k d0 e0 hd0 he0 hjk (by rw[←s1.1];exact h1) (by rw[←s2.1];exact h2)
 ·obtain⟨d0,hd0,x⟩:=hor j d hd
  obtain⟨e0,he0,y⟩:=hor k e he
  have s1:=same _ _ _ x
  have s2:=same _ _ _ y
  rw[s1.2.1,s2.2.1]
  exact h.r2.to j k d0 e0 hd0 he0 hjk (by rw[←s1.1];exact h1) (by rw[←s2.1];exact h2)
 ·obtain⟨r1,r2⟩:=h.r3
  unfold R3
  rw[hcs,units_set hc]
  have hu:(H.cutC K i).used=K.used-(nGone H c c.pairs:Nat):=by rw[←ec];rfl
  have hrm:(H.cutC K i).room=K.room:=lk.room
  rw[hu,hrm]
  have:Cell.units {c with pairs:=kept H c c.pairs}=c.units-(nGone H c c.pairs:Nat):=by
   unfold Cell.units
   show(if c.state=1 then 1+((kept H c c.pairs).length:Int)else 0)=_
   split
   ·omega
   ·rename_i hn
    have:=(h.r2.bare hc hn).2.2.2.2.2
    rw[this]at hkl⊢
    simp only[kept_nil,List.length_nil]at hkl
    omega
  rw[this];omega
 ·obtain⟨a,b⟩:=h.r4.regs w (by rw[←lk.regs];exact hw)
  exact⟨formed_len hl a,leads_of hst (fun j=>(hdm j).1) id b⟩
 ·obtain⟨d0,hd0,x⟩:=hor j d hd
  refine h.r4.roots j d0 hd0 ((hdm j).1 hdo) ?_
  have s1:=same _ _ _ x
  unfold Root at hr⊢
  rw[←s1.1,←s1.2.2.2.2];exact hr
 ·obtain⟨d0,hd0,x⟩:=hor j d hd
  obtain⟨k',hk',hkk⟩:=hat j d d0 x k p hp
  obtain⟨a,b,g⟩:=h.r4.pairs j d0 hd0 k' p hk'
  refine⟨formed_len hl a,formed_len hl b,fun hn=>?_⟩
  obtain⟨g1,g2⟩:=g (fun h'=>hn ((hdm j).2 h'))
  have hmm:¬Mended K j k'→¬Mended (H.cutC K i) j k:=fun hn hmd=>hn (by
   unfold Mended at hmd⊢
   rw[hph,hhd]at hmd
   refine⟨hmd.1,fun h5=>?_⟩
   rcases hmd.2 h5 with h1|⟨h1,h2⟩
   ·exact .inl h1
   ·have hj:j<K.cells.length:=(List.getElem?_eq_some_iff.1 hd0).1
    have hwk:K.walkedI=j:=by
     unfold Heap.walkedI
     rw[if_neg (by omega),if_pos ⟨h5,by omega⟩];omega
    exact .inr ⟨h1,(hkk hwk).1 h2⟩)
  exact⟨leads_of hst (fun j=>(hdm j).1) hmm g1,leads_of hst (fun j=>(hdm j).1) hmm g2⟩
 ·have hm':Marking K:=by unfold Marking at hm⊢;rw[hph]at hm;exact hm
  obtain⟨a,b,c'⟩:=h.r5.mark hm'
  rw[hgr]
  refine⟨a,fun g hg=>?_,fun j d hd hcl=>?_⟩
  ·rw[hl,hst,(lk.cell g).2.2.2.2.2];exact b g hg
  ·obtain⟨d0,hd0,x⟩:=hor j d hd
   exact c' j d0 hd0 (by rw[←(same _ _ _ x).2.2.2.1];exact hcl)
 ·have hm':¬Marking K:=by unfold Marking at hm⊢;rw[hph]at hm;exact hm
  obtain⟨a,b⟩:=h.r5.else_ hm'
  rw[hgr,hph,hhd]
  refine⟨a,fun j d hd=>?_⟩
  obtain⟨d0,hd0,x⟩:=hor j d hd
  rw[(same _ _ _ x).2.2.2.1];exact b j d0 hd0
 ·have h6:=h.r6
  by_cases p0:K.phase=0∨K.phase=4
  ·rw[r6_0 p0]at h6
   rw[r6_0 (by rw[hph];exact p0),hhd]
   exact⟨h6.1,by omega⟩
  by_cases p2:K.phase=2
  ·rw[r6_2 p2]at h6
   rw[r6_2 (by rw[hph];exact p2),hhd,hgr]
   refine⟨h6.1,?_⟩
   cases hg:K.gray with
   |nil=>rw[hg]at h6;simp only at h6⊢;omega
   |cons a r=>
    rw[hg]at h6;simp only at h6⊢
    obtain⟨_,g2,_⟩:=h.r5.mark (.inr p2)
    have ha:=g2 a (by rw[hg];simp)
    refine hs6 a ?_ ha.1 ha.2.1 h6.2
    unfold Heap.walkedI
    rw[if_pos ⟨p2,by rw[hg];simp⟩,hg];rfl
  by_cases p5:K.phase=5
  ·rw[r6_5 p5]at h6
   rw[r6_5 (by rw[hph];exact p5),hhd,hl,hst]
   split
   ·rename_i e
    rw[if_pos e]at h6
    have:=h.r1.hand
    refine hs6 K.hand ?_ this.1 e.1 h6
    unfold Heap.walkedI
    rw[if_neg (by omega),if_pos ⟨p5,e.1⟩]
   ·rename_i e
    rw[if_neg e]at h6;omega
  ·rw[r6_e (by omega)]at h6
   rw[r6_e (by rw[hph];omega)];omega
 ·have hm':Marking K:=by unfold Marking at hm⊢;rw[hph]at hm;exact hm
  obtain⟨d0,hd0,x⟩:=hor j d hd
  obtain⟨a,b⟩:=h.r7 hm' j d0 hd0
  have s1:=same _ _ _ x
  refine⟨fun hr hcl=>?_,fun k p hp hsc=>?_⟩
  ·rw[hph,hhd]
   refine a ?_ (by rw[←s1.2.2.2.1];exact hcl)
   unfold Root at hr⊢
   rw[←s1.1,←s1.2.2.2.2];exact hr
  ·obtain⟨k',hk',hkk⟩:=hat j d d0 x k p hp
   have hlt:=(List.getElem?_eq_some_iff.1 hk').1
   have:(k':Int)<scanned K j d0:=by
    unfold scanned at hsc⊢
    rw[hph,hgr,s1.2.2.2.1]at hsc
    split
    ·omega
    ·rename_i h2
     rw[if_neg h2]at hsc
     split at hsc
     ·rename_i e
      rw[if_pos e]
      refine(hkk ?_).1 hsc
      unfold Heap.walkedI
      cases hg:K.gray with
      |nil=>rw[hg]at e;simp at e
      |cons g r=>
       rw[hg]at e
       rw[if_pos ⟨e.1,by simp⟩]
       simp only[List.head?_cons,Option.some.injEq]at e
       simp only[List.headD_cons];exact e.2
     ·omega
   obtain⟨b1,b2⟩:=b k' p hk' this
   exact⟨fun h=>b1 ((hwh _).1 h),fun h=>b2 ((hwh _).1 h)⟩
 ·obtain⟨d0,hd0,x⟩:=hor j d hd
  rw[(same _ _ _ x).1]
  exact h.r8 (by rw[←hph];exact hp) j d0 hd0 (by rw[←hhd];exact hj)
theorem p1_sound{H:Heap}(h:Sound H):∀i:Nat,i≤H.cells.length→Sound (p1 H i)
 |0,_=>h
 |i+1,hi=>by
  have ih:=p1_sound h i (by omega)
  have l:=(p1_ok H i (by omega)).1
  simp only[p1]
  split
  ·exact(thin_sound l ih (by rw[l.len];omega)).1
  ·exact ih
theorem due_sound{K:Heap}{i:Nat}(h:Sound K)(hi:i<K.cells.length)(hl1:(K.getC i).last=1):Sound {K with cells:=K.cells.set i {K.getC i with last:=2}}:=by
 have hc:=getL_some (cs:=K.cells) (j:=i) (by omega) (by omega)
 rw[show((i:Int)).toNat=i by omega,←getC_L]at hc
 generalize ec:K.getC i=c at hc hl1
 generalize eK:({K with cells:=K.cells.set i {c with last:=2}}:Heap)=K'
 have hcs:K'.cells=K.cells.set i {c with last:=2}:=by rw[←eK]
 have gC:∀j:Int,K'.getC j=if j.toNat=i then{c with last:=2}else K.getC j:=fun j=>by
  rw[getC_L,getC_L,hcs];exact getL_set hi
 have hl:K'.cells.length=K.cells.length:=by rw[hcs];simp
 have lk:Like K K':=like_set hi (c:={c with last:=2}) (by rw[ec];exact⟨rfl,rfl,rfl,rfl,rfl,rfl⟩) hcs (by rw[←eK]) (by rw[←eK]) (by rw[←eK]) (by rw[←eK]) (by rw[←eK]) (by rw[←eK]) (by rw[←eK]) (by rw[←eK]) (by rw[←eK]) (by rw[←eK])
 have hu:c.state=1:=by
  by_cases e:c.state=1
  ·exact e
  ·have:=(h.r2.bare hc e).2.2.1;omega
 have hor:∀(j:Nat) d,K'.cells[j]?=some d→∃d0,K.cells[j]?=some d0∧(j=i∧d0=c∧d={c with last:=2}∨j≠i∧d=d0):=fun j d hd=>by rw[hcs]at hd;exact orig hc hd
 have hst:∀j:Int,(K'.getC j).state=(K.getC j).state:=fun j=>(lk.cell j).1
 have hpr:∀j:Int,(K'.getC j).pairs=(K.getC j).pairs:=fun j=>by
  rw[gC];split
  ·rename_i e;rw[←ec];have:K.getC j=K.getC i:=by rw[getC_L,getC_L];unfold getL;rw[e];rfl
   rw[this]
  ·rfl
 have hsb:K'.sub=K.sub:=by rw[←eK]
 have hus:K'.used=K.used:=by rw[←eK]
 have hph:=lk.phase
 have hhd:=lk.hand
 have hgr:=lk.gray
 have hdm:∀j,Doomed K' j↔Doomed K j:=fun j=>by unfold Doomed;rw[hph,hst,(lk.cell j).2.2.2.2.2,hhd]
 have hwh:∀w,White K' w↔White K w:=fun w=>by unfold White;rw[(lk.cell _).2.2.2.2.2]
 have same:∀(j:Nat) d d0,(j=i∧d0=c∧d={c with last:=2}∨j≠i∧d=d0)→d.state=d0.state∧d.to=d0.to∧d.born=d0.born∧d.color=d0.color∧d.pairs=d0.pairs∧(Root d→Root d0):=fun j d d0 x=>by
  rcases x with⟨_,rfl,rfl⟩|⟨_,rfl⟩
  ·exact⟨rfl,rfl,rfl,rfl,rfl,fun _=>⟨hu,.inl hl1⟩⟩
  ·exact⟨rfl,rfl,rfl,rfl,rfl,id⟩
 refine⟨?_,⟨fun j d hd=>?_,fun j k d e hd he hjk h1 h2=>?_,fun j k d e hd he hjk h1 h2=>?_⟩,?_,?_,⟨fun hm=>?_,fun hm=>?_⟩,?_,fun hm j d hd=>?_,fun hp j d hd hj=>?_⟩
 ·rw[←eK]at hl⊢
  exact{h.r1 with cells:=by rw[hl];exact h.r1.cells,gray:=by rw[hl];exact h.r1.gray,hand:=by rw[hl];exact h.r1.hand}
 ·obtain⟨d0,hd0,x⟩:=hor j d hd
  rcases x with⟨rfl,rfl,rfl⟩|⟨_,rfl⟩
  ·obtain⟨a1,a2,a3,a4,a5,a6,a7,a8⟩:=h.r2.used hd0 hu
   exact .inr (.inr ⟨a1,a2,a3,by show(0:Int)≤2∧(2:Int)≤3;omega,by rw[lk.born];exact a5,a6,a7,a8⟩)
  ·rcases h.r2.each j d hd0 with h1|⟨a1,a2,a3,a4,a5,a6⟩|h1
   ·exact .inl h1
   ·exact .inr (.inl ⟨a1,a2,by rw[hph];exact a3,a4,by rw[hst];exact a5,fun hp k k0 k1=>by rw[hst];exact a6 (by rw[←hph];exact hp) k k0 k1⟩)
   ·exact .inr (.inr ⟨h1.1,h1.2.1,h1.2.2.1,h1.2.2.2.1,by rw[lk.born];exact h1.2.2.2.2.1,h1.2.2.2.2.2⟩)
 ·obtain⟨d0,hd0,x⟩:=hor j d hd
  obtain⟨e0,he0,y⟩:=hor k e he
  have s1:=same _ _ _ x
  have s2:=same _ _ _ y
  rw[s1.2.2.1,s2.2.2.1]
  exact h.r2.born j k d0 e0 hd0 he0 hjk (by rw[←s1.1];exact h1) (by rw[←s2.1];exact h2)
 ·obtain⟨d0,hd0,x⟩:=hor j d hd
  obtain⟨e0,he0,y⟩:=hor k e he
  have s1:=same _ _ _ x
  have s2:=same _ _ _ y
  rw[s1.2.1,s2.2.1]
  exact h.r2.to j k d0 e0 hd0 he0 hjk (by rw[←s1.1];exact h1) (by rw[←s2.1];exact h2)
 ·unfold R3
  rw[hcs,units_set hc,hus,lk.room]
  have:Cell.units {c with last:=2}=c.units:=rfl
  rw[this]
  have:=h.r3
  unfold R3 at this;omega
 ·exact r4_frame h.r4 hl lk.regs hst hdm (fun j d hd=>by
   obtain⟨d0,hd0,x⟩:=hor j d hd
   have s1:=same _ _ _ x
   exact⟨d0,hd0,s1.2.2.2.2.1,s1.2.2.2.2.2⟩) (fun j k d p _ _ hm=>by unfold Mended at hm⊢;rw[hph,hhd,hsb]at hm;exact hm)
 ·have hm':Marking K:=by unfold Marking at hm⊢;rw[hph]at hm;exact hm
  obtain⟨a,b,c'⟩:=h.r5.mark hm'
  rw[hgr]
  refine⟨a,fun g hg=>?_,fun j d hd hcl=>?_⟩
  ·rw[hl,hst,(lk.cell g).2.2.2.2.2];exact b g hg
  ·obtain⟨d0,hd0,x⟩:=hor j d hd
   exact c' j d0 hd0 (by rw[←(same _ _ _ x).2.2.2.1];exact hcl)
 ·have hm':¬Marking K:=by unfold Marking at hm⊢;rw[hph]at hm;exact hm
  obtain⟨a,b⟩:=h.r5.else_ hm'
  rw[hgr,hph,hhd]
  refine⟨a,fun j d hd=>?_⟩
  obtain⟨d0,hd0,x⟩:=hor j d hd
  rw[(same _ _ _ x).2.2.2.1];exact b j d0 hd0
 ·have h6:=h.r6
  unfold R6 at h6⊢
  rw[hph,hhd,hsb,hgr,hl,hst,hpr]
  cases hg:K.gray with
  |nil=>rw[hg]at h6;exact h6
  |cons a r=>rw[hg]at h6;simp only[hpr]at h6⊢;exact h6
 ·have hm':Marking K:=by unfold Marking at hm⊢;rw[hph]at hm;exact hm
  obtain⟨d0,hd0,x⟩:=hor j d hd
  obtain⟨a,b⟩:=h.r7 hm' j d0 hd0
  have s1:=same _ _ _ x
  refine⟨fun hr hcl=>?_,fun k p hp hsc=>?_⟩
  ·rw[hph,hhd]
   exact a (s1.2.2.2.2.2 hr) (by rw[←s1.2.2.2.1];exact hcl)
  ·obtain⟨b1,b2⟩:=b k p (by rw[←s1.2.2.2.2.1];exact hp) (by
    unfold scanned at hsc⊢
    rw[hph,hgr,s1.2.2.2.1,s1.2.2.2.2.1,hsb]at hsc;exact hsc)
   exact⟨fun h=>b1 ((hwh _).1 h),fun h=>b2 ((hwh _).1 h)⟩
 ·obtain⟨d0,hd0,x⟩:=hor j d hd
  rw[(same _ _ _ x).1]
  exact h.r8 (by rw[←hph];exact hp) j d0 hd0 (by rw[←hhd];exact hj)
theorem p2_sound{H:Heap}(h:Sound H):∀i:Nat,i≤H.cells.length→Sound (p2 H i)
 |0,_=>p1_sound h _ (Nat.le_refl _)
 |i+1,hi=>by
  have ih:=p2_sound h i (by omega)
  obtain⟨l,b,_⟩:=p2_ok H i (by omega)
  simp only[p2]
  split
  ·rename_i e
   refine due_sound ih (by rw[l.len];omega) ?_
   rw[b i (Nat.le_refl _),(p1_ok H _ (Nat.le_refl _)).2.2.1];exact e.2
  ·exact ih
theorem settle_sound{H:Heap}(h:Sound H):Sound H.settleH:=p2_sound h _ (Nat.le_refl _)
def Heap.putC(K:Heap)(i:Nat)(d:Cell)(u s:Int):Heap:={K with cells:=K.cells.set i d,used:=u,sub:=s}
theorem putC_get{K:Heap}{i:Nat}{d:Cell}{u s:Int}(hi:i<K.cells.length)(j:Int):(K.putC i d u s).getC j=if j.toNat=i then d else K.getC j:=by
 rw[getC_L,getC_L];exact getL_set hi
theorem put_sound{K:Heap}{i:Nat}{c d:Cell}{u s:Int}(h:Sound K)(hc:K.cells[i]?=some c)(hs1:c.state=1)
 (hd:d.state=1∧d.kind=c.kind∧d.born=c.born∧d.color=c.color∧d.to=c.to) (hwk':0≤d.weak∧d.weak≤3) (hls:0≤d.last∧d.last≤3) (hpl:d.pairs.length≤200)
 (hu:u=K.used-c.pairs.length+d.pairs.length) (hur:u≤K.room) (hs0:K.walkedI≠i→s=K.sub) (hsb:0≤s) (hsw:K.walkedI=i→s≤d.pairs.length)
 (hrt:Root d→Root c∨(¬Doomed K i∧(Marking K→d.color≠0)))
 (hpr:∀(k:Nat) p,d.pairs[k]?=some p→Formed K p.key∧Formed K p.val∧(¬Doomed K i→LeadsWell K p.key (¬Mended {K with sub:=s} i k)∧LeadsWell K p.val (¬Mended {K with sub:=s} i k))∧(Marking K→(k:Int)<scanned {K with sub:=s} i d→¬White K p.key∧¬White K p.val)):
 Sound (K.putC i d u s):=by
 have hi:=(List.getElem?_eq_some_iff.1 hc).1
 generalize eK:K.putC i d u s=K'
 have hcs:K'.cells=K.cells.set i d:=by rw[←eK];rfl
 have gC:∀j:Int,K'.getC j=if j.toNat=i then d else K.getC j:=fun j=>by rw[←eK];exact putC_get hi j
 have ec:∀j:Int,j.toNat=i→K.getC j=c:=fun j e=>by rw[getC_L,getL_at hc e]
 have gS:∀j:Int,(K'.getC j).state=(K.getC j).state∧(K'.getC j).color=(K.getC j).color:=fun j=>by
  rw[gC]
  split
  ·rename_i e;rw[ec j e,hd.1,hs1,hd.2.2.2.1];exact⟨rfl,rfl⟩
  ·exact⟨rfl,rfl⟩
 have hl:K'.cells.length=K.cells.length:=by rw[hcs];simp
 have hsub:K'.sub=s:=by rw[←eK];rfl
 have hus:K'.used=u:=by rw[←eK];rfl
 have hph:K'.phase=K.phase:=by rw[←eK];rfl
 have hhd:K'.hand=K.hand:=by rw[←eK];rfl
 have hgr:K'.gray=K.gray:=by rw[←eK];rfl
 have hrg:K'.regs=K.regs:=by rw[←eK];rfl
 have hbn:K'.born=K.born:=by rw[←eK];rfl
 have hrm:K'.room=K.room:=by rw[←eK];rfl
 have hor:∀(j:Nat) e,K'.cells[j]?=some e→∃e0,K.cells[j]?=some e0∧(j=i∧e0=c∧e=d∨j≠i∧e=e0):=fun j e he=>by rw[hcs]at he;exact orig hc he
 have hdm:∀j,Doomed K' j↔Doomed K j:=fun j=>by unfold Doomed;rw[hph,(gS j).1,(gS j).2,hhd]
 have hwh:∀w,White K' w↔White K w:=fun w=>by unfold White;rw[(gS _).2]
 have hst:=fun j=>(gS j).1
 have same:∀(j:Nat) e e0,(j=i∧e0=c∧e=d∨j≠i∧e=e0)→e.state=e0.state∧e.to=e0.to∧e.born=e0.born∧e.color=e0.color:=fun j e e0 x=>by
  rcases x with⟨_,rfl,rfl⟩|⟨_,rfl⟩
  ·exact⟨hd.1.trans hs1.symm,hd.2.2.2.2,hd.2.2.1,hd.2.2.2.1⟩
  ·exact⟨rfl,rfl,rfl,rfl⟩
 have hwk:∀j:Nat,j<K.cells.length→K.phase=5→(j:Int)=K.hand→K.walkedI=j:=fun j hj h5 e=>by
  unfold Heap.walkedI
  rw[if_neg (by omega),if_pos ⟨h5,by omega⟩];omega
 have hmd:∀(j:Nat) (k:Int),j≠i→j<K.cells.length→Mended K' j k→Mended K j k:=fun j k hj hlt hm=>by
  unfold Mended at hm⊢
  rw[hph,hhd,hsub]at hm
  refine⟨hm.1,fun h5=>?_⟩
  rcases hm.2 h5 with h1|⟨h1,h2⟩
  ·exact .inl h1
  ·have:=hs0 (by rw[hwk j hlt h5 h1];omega)
   exact .inr ⟨h1,by omega⟩
 have hmi:∀(k:Int),Mended K' i k→Mended {K with sub:=s} i k:=fun k hm=>by
  unfold Mended at hm⊢
  rw[hph,hhd,hsub]at hm;exact hm
 have hsm:0≤s∧s≤200:=by
  by_cases e:K.walkedI=i
  ·have:=hsw e;omega
  ·have:=h.r1.sub;rw[hs0 e];omega
 refine⟨?_,⟨fun j e he=>?_,fun j k e f he hf hjk h1 h2=>?_,fun j k e f he hf hjk h1 h2=>?_⟩,?_,⟨fun w hw=>?_,fun j e he hdo hr=>?_,fun j e he k p hp=>?_⟩,⟨fun hm=>?_,fun hm=>?_⟩,?_,fun hm j e he=>?_,fun hp j e he hj=>?_⟩
 ·rw[←eK]at hl⊢
  exact{h.r1 with cells:=by rw[hl];exact h.r1.cells,gray:=by rw[hl];exact h.r1.gray,hand:=by rw[hl];exact h.r1.hand,sub:=hsm}
 ·obtain⟨e0,he0,x⟩:=hor j e he
  rcases x with⟨rfl,rfl,rfl⟩|⟨_,rfl⟩
  ·obtain⟨a1,a2,a3,a4,a5,a6,a7,a8⟩:=h.r2.used he0 hs1
   exact .inr (.inr ⟨hd.1,by rw[hd.2.1];exact a2,hwk',hls,by rw[hd.2.2.1,hbn];exact a5,by rw[hd.2.2.2.1];exact a6,by rw[hd.2.2.2.2];exact a7,hpl⟩)
  ·rcases h.r2.each j e he0 with h1|⟨a1,a2,a3,a4,a5,a6⟩|h1
   ·exact .inl h1
   ·exact .inr (.inl ⟨a1,a2,by rw[hph];exact a3,a4,by rw[hst];exact a5,fun hp k k0 k1=>by rw[hst];exact a6 (by rw[←hph];exact hp) k k0 k1⟩)
   ·exact .inr (.inr ⟨h1.1,h1.2.1,h1.2.2.1,h1.2.2.2.1,by rw[hbn];exact h1.2.2.2.2.1,h1.2.2.2.2.2⟩)
 ·obtain⟨e0,he0,x⟩:=hor j e he
  obtain⟨f0,hf0,y⟩:=hor k f hf
  have s1:=same _ _ _ x
  have s2:=same _ _ _ y
  rw[s1.2.2.1,s2.2.2.1]
  exact h.r2.born j k e0 f0 he0 hf0 hjk (by rw[←s1.1];exact h1) (by rw[←s2.1];exact h2)
 ·obtain⟨e0,he0,x⟩:=hor j e he
  obtain⟨f0,hf0,y⟩:=hor k f hf
  have s1:=same _ _ _ x
  have s2:=same _ _ _ y
  rw[s1.2.1,s2.2.1]
  exact h.r2.to j k e0 f0 he0 hf0 hjk (by rw[←s1.1];exact h1) (by rw[←s2.1];exact h2)
 ·obtain⟨r1,r2⟩:=h.r3
  unfold R3
  rw[hcs,units_set hc,hus,hrm]
  unfold Cell.units
  rw[if_pos hs1,if_pos hd.1]
  exact⟨by omega,hur⟩
 ·obtain⟨a,b⟩:=h.r4.regs w (by rw[←hrg];exact hw)
  exact⟨formed_len hl a,leads_of hst (fun j=>(hdm j).1) id b⟩
 ·obtain⟨e0,he0,x⟩:=hor j e he
  rcases x with⟨rfl,rfl,rfl⟩|⟨_,rfl⟩
  ·rcases hrt hr with h1|h1
   ·exact h.r4.roots j e0 he0 ((hdm j).1 hdo) h1
   ·exact h1.1 ((hdm j).1 hdo)
  ·exact h.r4.roots j e he0 ((hdm j).1 hdo) hr
 ·obtain⟨e0,he0,x⟩:=hor j e he
  rcases x with⟨rfl,rfl,rfl⟩|⟨hj,rfl⟩
  ·obtain⟨a,b,g,_⟩:=hpr k p hp
   refine⟨formed_len hl a,formed_len hl b,fun hn=>?_⟩
   obtain⟨g1,g2⟩:=g (fun h'=>hn ((hdm j).2 h'))
   have hmm:¬Mended {K with sub:=s} j k→¬Mended K' j k:=fun a b=>a (hmi k b)
   exact⟨leads_of hst (fun j=>(hdm j).1) hmm g1,leads_of hst (fun j=>(hdm j).1) hmm g2⟩
  ·obtain⟨a,b,g⟩:=h.r4.pairs j e he0 k p hp
   refine⟨formed_len hl a,formed_len hl b,fun hn=>?_⟩
   obtain⟨g1,g2⟩:=g (fun h'=>hn ((hdm j).2 h'))
   have hmm:¬Mended K j k→¬Mended K' j k:=fun a b=>a (hmd j k hj (List.getElem?_eq_some_iff.1 he0).1 b)
   exact⟨leads_of hst (fun j=>(hdm j).1) hmm g1,leads_of hst (fun j=>(hdm j).1) hmm g2⟩
 ·have hm':Marking K:=by unfold Marking at hm⊢;rw[hph]at hm;exact hm
  obtain⟨a,b,c'⟩:=h.r5.mark hm'
  rw[hgr]
  refine⟨a,fun g hg=>?_,fun j e he hcl=>?_⟩
  ·rw[hl,hst,(gS g).2];exact b g hg
  ·obtain⟨e0,he0,x⟩:=hor j e he
   exact c' j e0 he0 (by rw[←(same _ _ _ x).2.2.2];exact hcl)
 ·have hm':¬Marking K:=by unfold Marking at hm⊢;rw[hph]at hm;exact hm
  obtain⟨a,b⟩:=h.r5.else_ hm'
  rw[hgr,hph,hhd]
  refine⟨a,fun j e he=>?_⟩
  obtain⟨e0,he0,x⟩:=hor j e he
  rw[(same _ _ _ x).2.2.2];exact b j e0 he0
 ·have h6:=h.r6
  have hs6:∀j:Int,K.walkedI=j→0≤j→K.sub≤(K.getC j).pairs.length→s≤(K'.getC j).pairs.length:=fun j e j0 hs=>by
   rw[gC]
   by_cases ej:j.toNat=i
   ·rw[if_pos ej];exact hsw (by omega)
   ·rw[if_neg ej,hs0 (by omega)];exact hs
  by_cases p0:K.phase=0∨K.phase=4
  ·rw[r6_0 p0]at h6
   rw[r6_0 (by rw[hph];exact p0),hhd,hsub,hs0 (by unfold Heap.walkedI;rw[if_neg (by omega),if_neg (by omega)];omega)]
   exact h6
  by_cases p2:K.phase=2
  ·rw[r6_2 p2]at h6
   rw[r6_2 (by rw[hph];exact p2),hhd,hgr,hsub]
   refine⟨h6.1,?_⟩
   cases hg:K.gray with
   |nil=>
    rw[hg]at h6;simp only at h6⊢
    rw[hs0 (by unfold Heap.walkedI;rw[if_neg (by simp[hg]),if_neg (by omega)];omega)];exact h6.2
   |cons a r=>
    rw[hg]at h6;simp only at h6⊢
    obtain⟨_,g2,_⟩:=h.r5.mark (.inr p2)
    have ha:=g2 a (by rw[hg];simp)
    refine hs6 a ?_ ha.1 h6.2
    unfold Heap.walkedI
    rw[if_pos ⟨p2,by rw[hg];simp⟩,hg];rfl
  by_cases p5:K.phase=5
  ·rw[r6_5 p5]at h6
   rw[r6_5 (by rw[hph];exact p5),hhd,hl,hst,hsub]
   split
   ·rename_i e
    rw[if_pos e]at h6
    have:=h.r1.hand
    refine hs6 K.hand ?_ this.1 h6
    unfold Heap.walkedI
    rw[if_neg (by omega),if_pos ⟨p5,e.1⟩]
   ·rename_i e
    rw[if_neg e]at h6
    rw[hs0 ?_]
    ·exact h6
    ·intro hw
     unfold Heap.walkedI at hw
     rw[if_neg (by omega)]at hw
     split at hw
     ·rename_i e2
      exact e ⟨e2.2,by rw[hw,ec i (by omega)];exact hs1⟩
     ·omega
  ·rw[r6_e (by omega)]at h6
   rw[r6_e (by rw[hph];omega),hsub,hs0 (by unfold Heap.walkedI;rw[if_neg (by omega),if_neg (by omega)];omega)]
   exact h6
 ·have hm':Marking K:=by unfold Marking at hm⊢;rw[hph]at hm;exact hm
  obtain⟨e0,he0,x⟩:=hor j e he
  rcases x with⟨rfl,rfl,rfl⟩|⟨hj,rfl⟩
  ·obtain⟨a,b⟩:=h.r7 hm' j e0 he0
   refine⟨fun hr hcl=>?_,fun k p hp hsc=>?_⟩
   ·rw[hph,hhd]
    rcases hrt hr with h1|h1
    ·exact a h1 (by rw[←hd.2.2.2.1];exact hcl)
    ·exact absurd hcl (h1.2 hm')
   ·obtain⟨_,_,_,g⟩:=hpr k p hp
    obtain⟨b1,b2⟩:=g hm' (by
     unfold scanned at hsc⊢
     rw[hph,hgr,hsub]at hsc;exact hsc)
    exact⟨fun h=>b1 ((hwh _).1 h),fun h=>b2 ((hwh _).1 h)⟩
  ·obtain⟨a,b⟩:=h.r7 hm' j e he0
   refine⟨fun hr hcl=>by rw[hph,hhd];exact a hr hcl,fun k p hp hsc=>?_⟩
   obtain⟨b1,b2⟩:=b k p hp (by
    unfold scanned at hsc⊢
    rw[hph,hgr,hsub]at hsc
    split
    ·rename_i h2;rw[if_pos h2]at hsc;exact hsc
    ·rename_i h2
     rw[if_neg h2]at hsc
     split at hsc
     ·rename_i e2
      rw[if_pos e2]
      have:=hs0 (by
       unfold Heap.walkedI
       cases hg:K.gray with
       |nil=>rw[hg]at e2;simp at e2
       |cons g r=>
        rw[hg]at e2
        rw[if_pos ⟨e2.1,by simp⟩]
        simp only[List.head?_cons,Option.some.injEq]at e2
        simp only[List.headD_cons];omega)
      omega
     ·omega)
   exact⟨fun h=>b1 ((hwh _).1 h),fun h=>b2 ((hwh _).1 h)⟩
 ·obtain⟨e0,he0,x⟩:=hor j e he
  rw[(same _ _ _ x).1]
  exact h.r8 (by rw[←hph];exact hp) j e0 he0 (by rw[←hhd];exact hj)
end Go.Proofs.YtpleoapljeffiaaGreatDoor.E
