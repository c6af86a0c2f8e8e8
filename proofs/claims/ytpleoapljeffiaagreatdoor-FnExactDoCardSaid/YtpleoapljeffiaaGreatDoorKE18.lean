/- A part of the proof. Conditions: none. -/
import Derived.Test.YtpleoapljeffiaaGreatDoorKE17
set_option linter.unusedVariables false
set_option linter.unusedSimpArgs false
set_option maxHeartbeats 8000000
set_option maxRecDepth 100000
namespace Go.Proofs.YtpleoapljeffiaaGreatDoor.E
open Go
open Classical
abbrev PW:=PQ×List WE
abbrev hoA(m:Mem)(a p1 p2 p3 mb:Nat)(sd:D)(q:PW):List Asr:=seA a p1 p2 p3 sd q.1.2 q.1.1++[wmA mb q.2,wtA q.2,ro m]
theorem holds_a{m:Mem}{a:Nat}{x:HX}(h:Has m (hp a x))(h1:R1 x.H)(h2:R2 x.H)(h4:R4 x.H):FnA Tryz.prog 156 [ptr a] [ro m] (fun v As=>∃sd:D,v=.slice sd.a (heldL x.H).length sd.cap∧As=[slA 1 bv sd (heldL x.H),ro m]):=by
 have hb0:=h.lens
 have hl:=x.len
 have hc1:=h1.cells
 have hc2:=h1.room
 refine fnA_of (fun h=>fn156 (by simp) h) ?_
 repeat' (first|refine xx ?_|(refine k_L ?_;first|(refine a_nw (vs:=[ptr a]) rfl rfl (fun p1=>?_))|(refine a_mk (f:=bv) (n:=(x.xs.length:Int)) (k:=(x.xs.length:Int)) false (fun _=>rfl) rfl rfl rfl (by omega) (by omega) (fun sd hsd=>?_)))|fail)
 refine a_nz (fun p2=>?_)
 repeat' (first|refine xx ?_|(refine k_L ?_;first|(refine g_sb rfl rfl rfl rfl ?_)|(refine a_mm (fun mb=>?_)))|fail)
 refine a_nz (fun p3=>?_)
 repeat' (first|refine xx ?_|fail)
 have hm0:=mk0 x.H (Held x.H)
 rw[hl]at hm0
 refine VA.ent (ent_new (f:=iv) (size:=1)) ?_
 have hreg:∀w,w∈x.H.regs→∀j,x.H.tgt w=some j→j<x.H.cells.length∧Held x.H j:=fun w hw j hj=>⟨(tgt_lt h2 (h4.regs w hw).1 hj).1,.reg hw hj⟩
 have hfn:fnOk Tryz.prog 167=true:=fnOk_of Tryz.func167 rfl rfl
 refine g_range x.regs.length (fun q:PQ=>[(1,.v (ptr p1)),(3,.v (ptr p2)),(4,.v (.map (some mb))),(5,.v (ptr p3)),(6,.v (.func (.func 167) #[] #[ptr p1,ptr p2,ptr p3])),(29,.v (.slice x.rd.a x.regs.length x.rd.cap))]) (fun q=>seA a p1 p2 p3 sd q.2 q.1++[mpA mb (fun _=>none),ro m])
  (fun i q=>MkA x.H (Held x.H) q.1∧∀w,w∈x.H.regs.take i→Hit x.H q.1.1 w) (((List.replicate x.xs.length false,[]),⟨none,0⟩):PQ) ⟨hm0,by simp⟩ (fun i q hi hv=>?_) (fun q hv=>?_) (hent:=by
  show Ent _ (seA a p1 p2 p3 sd ⟨none,0⟩ (List.replicate x.xs.length false,[])++[mpA mb (fun _=>none),ro m])
  simp only[seA,List.length_replicate]
  exact Pm.ent pmt)
 ·obtain⟨w,gw⟩:∃w,x.regs[i]?=some w:=⟨_,List.getElem?_eq_getElem hi⟩
  have hwm:w∈x.H.regs:=List.mem_of_getElem? gw
  obtain⟨n1,n2,n3⟩:=hv.1.next (hreg w hwm)
  repeat' (first|refine xx ?_|(refine k_L ?_;(refine a_cv rfl hfn rfl (holds1_a (p1:=p1) (p2:=p2) (p3:=p3) (sd:=sd) (kd:=q.2) (w:=w) (S:=Held x.H) h h1 h2 (h4.regs w hwm).1 hv.1.ok) pmt (fun v As' hq=>?_);obtain⟨kd',rfl⟩:=hq))|fail)
  refine r_nx ((mkW x.H q.1 w,kd'):PQ) ⟨n1,fun w' hw'=>?_⟩ (he:=Pm.ent pmt)
  rw[List.take_add_one,List.mem_append]at hw'
  rcases hw' with hw'|hw'
  ·exact(hv.2 w' hw').grow n2
  ·rw[show x.H.regs[i]?=some w from gw]at hw'
   simp only[Option.toList_some,List.mem_singleton]at hw'
   subst hw';exact n3
 ·obtain⟨hv1,hv2⟩:=hv
  rw[List.take_of_length_le (by exact Nat.le_refl _)]at hv2
  repeat' (first|refine xx ?_|fail)
  refine g_range x.xs.length (fun q:PQ=>[(1,.v (ptr p1)),(3,.v (ptr p2)),(4,.v (.map (some mb))),(5,.v (ptr p3)),(6,.v (.func (.func 167) #[] #[ptr p1,ptr p2,ptr p3])),(42,.v (.slice x.cd.a x.xs.length x.cd.cap))]) (fun q=>seA a p1 p2 p3 sd q.2 q.1++[mpA mb (fun _=>none),ro m])
   (fun i q=>MkA x.H (Held x.H) q.1∧(∀w,w∈x.H.regs→Hit x.H q.1.1 w)∧∀(j:Nat) c,j<i→x.H.cells[j]?=some c→c.last=2→q.1.1[j]?=some true) q ⟨hv1,hv2,fun j c hj=>by omega⟩ (fun i q hi hv=>?_) (fun q hv=>?_) (hent:=Pm.ent pmt)
  ·obtain⟨y,gy,gc⟩:=HX.at hi
   obtain⟨hv1,hv2,hv3⟩:=hv
   by_cases hr:y.c.last=2
   ·have hst:=last2 h2 gc hr
    obtain⟨n1,n2,n3⟩:=hv1.next (w:=⟨2,0,i⟩) (fun j hj=>by
     rw[tgt_root gc hst]at hj
     cases hj
     exact⟨by omega,.due gc hr⟩)
    repeat' (first|refine xx ?_|(refine xy ?_ ?_<;>intro hb<;>try(exfalso;omega))|(refine k_L ?_;(refine a_cv rfl hfn rfl (holds1_a (p1:=p1) (p2:=p2) (p3:=p3) (sd:=sd) (kd:=q.2) (w:=⟨2,0,i⟩) (S:=Held x.H) h h1 h2 (formed_at (by omega)) hv1.ok) pmt (fun v As' hq=>?_);obtain⟨kd',rfl⟩:=hq))|fail)
    refine r_nx ((mkW x.H q.1 ⟨2,0,i⟩,kd'):PQ) ⟨n1,fun w' hw'=>(hv2 w' hw').grow n2,fun j c hj hc hl2=>?_⟩ (he:=Pm.ent pmt)
    by_cases e:j=i
    ·subst e
     exact n3 j (tgt_root gc hst)
    ·exact n2.mono j (hv3 j c (by omega) hc hl2)
   ·have nxt:∀(j:Nat) c,j<i+1→x.H.cells[j]?=some c→c.last=2→q.1.1[j]?=some true:=fun j c hj hc hl2=>by
     by_cases e:j=i
     ·subst e;rw[gc]at hc;cases hc;exact absurd hl2 hr
     ·exact hv3 j c (by omega) hc hl2
    repeat' (first|refine xx ?_|(refine xy ?_ ?_<;>intro hb<;>try(exfalso;omega))|fail)
    all_goals exact r_nx q ⟨hv1,hv2,nxt⟩ (he:=Pm.ent pmt)
  ·obtain⟨hv1,hv2,hv3⟩:=hv
   have hfull:HFull x.H q.1.1:=⟨hv2,fun i c hc hr=>hv3 i c (by have:=(List.getElem?_eq_some_iff.1 hc).1;omega) hc hr⟩
   have hi0:=HI.init x.H hv1
   clear hv1 hv2 hv3
   repeat' (first|refine xx ?_|fail)
   refine VA.ent (Bs:=mpA mb (fun _=>none)::(seA a p1 p2 p3 sd q.2 q.1++[ro m])) (Pm.ent pmt) ?_
   refine VA.ent (ent_wm0 (n:=x.H.cells.length)) ?_
   refine VA.ent (ent_wnil (n:=x.H.cells.length)) ?_
   refine v_blk ?_
   refine v_loop (fun q:PW=>[(1,.v (ptr p1)),(3,.v (ptr p2)),(4,.v (.map (some mb))),(5,.v (ptr p3)),(6,.v (.func (.func 167) #[] #[ptr p1,ptr p2,ptr p3]))]) (fun q=>hoA m a p1 p2 p3 mb sd q)
    (fun k q=>k=2*q.1.1.1.count false+q.1.1.2.length∧(∃pc,HI x.H q.1.1 q.2 (200*pc) pc (fun _=>False) (fun _=>False))∧HFull x.H q.1.1.1) ⟨_,(q,List.replicate x.H.cells.length wv0),⟨rfl,rfl,rfl,rfl,rfl,trivial⟩,Pm.ent pmt,rfl,⟨0,hi0⟩,hfull⟩ ?_
   clear hi0 hfull
   rintro k ⟨⟨⟨seen,stk⟩,kd⟩,W⟩ ⟨rfl,⟨pc,hI⟩,hfull⟩
   dsimp only at hI hfull⊢
   rcases(show stk=[]∨∃init g,stk=init++[g]from by
    by_cases hne:stk=[]
    ·exact .inl hne
    ·exact .inr ⟨_,_,(List.dropLast_concat_getLast hne).symm⟩)with rfl|⟨init,g,rfl⟩
   ·have e:=hI.fin hfull
    subst e
    repeat' (first|refine xx ?_|fail)
    exact fa_r (As':=[slA 1 bv sd (heldL x.H),ro m]) (fun _ _=>rfl) (Pm.ent pmt) ⟨sd,rfl,rfl⟩
   ·obtain⟨j,rfl,hj⟩:=hI.mk'.stk g (by simp)
    dsimp only at hj
    have hHj:=hI.mk'.snd j hj
    have hjn:j<x.H.cells.length:=by
     have h1':=(List.getElem?_eq_some_iff.1 hj).1
     have h2':=hI.mk'.len
     dsimp only at h2'
     omega
    have hjl:j<x.xs.length:=by omega
    obtain⟨y,gy,gc⟩:=HX.at hjl
    have hpl:=h2.pl (List.mem_of_getElem? gc)
    have hlen:(init++[(j:Int)]).length=init.length+1:=by simp
    have gj:(init++[(j:Int)])[(((init++[(j:Int)]).length:Int)-1).toNat]?=some (j:Int):=by
     rw[hlen,show(((init.length+1:Nat):Int)-1).toNat=init.length by omega];simp
    have hcnt:=hI.pc
    dsimp only at hcnt
    have e0:(((init++[(j:Int)]).length:Int)-1).toNat=init.length:=by rw[hlen];omega
    obtain⟨we,hwe⟩:∃we,W[j]?=some we:=⟨_,List.getElem?_eq_getElem (by rw[hI.wl];exact hjn)⟩
    have hwlen:=hI.wlen we (List.mem_of_getElem? hwe)
    have hI1:=hI.pop
    refine v_kn (p:=(init++[(j:Int)]).length≤kd.cap) (kn_t (kn_t (kn_t (kn_t (kn_h cp_sl))))) (fun hcap=>?_)
    refine VA.ent (Bs:=wmA mb W::wtA W::(seA a p1 p2 p3 sd kd (seen,init++[(j:Int)])++[ro m])) (Pm.ent pmt) ?_
    refine v_wm (fun gm hgm=>?_)
    have hlk:(gm (j:Int)).getD (.slice none 0 0)=.slice we.1.a we.2.length we.1.cap:=hgm j we hwe
    refine VA.ent (Bs:=wtA W::mpA mb gm::(seA a p1 p2 p3 sd kd (seen,init++[(j:Int)])++[ro m])) (Pm.ent pmt) ?_
    refine VA.ent (ent_wout hwe) ?_
    repeat' (first|refine xx ?_|(refine xy ?_ ?_<;>intro hb<;>try(exfalso;omega))|(refine k_L ?_;first|(refine g_sb rfl rfl rfl rfl ?_)|(refine g_tk rfl rfl ?_)|(refine a_lk (by(fail_if_success apply pk_bad);(repeat(first|exact pk_h|apply pk_t));fail_if_success focus skip) rfl rfl hlk ?_))|fail)
    rotate_left
    ·exfalso;simp at hb
    rw[e0]
    refine VA.ent (Bs:=[slA 1 iv kd (init++[(j:Int)]),bx p1 [ptr a],bx p2 [.slice sd.a seen.length sd.cap],slA 1 bv sd seen,bx p3 [.slice kd.a init.length kd.cap],slA 3 wv we.1 we.2,mpA mb gm,wtA (W.eraseIdx j),ro m]) (Pm.ent pmt) ?_
    refine VA.ent (ent_pre iv_len) ?_
    refine g_range we.2.length (fun q:PQ=>[(1,.v (ptr p1)),(3,.v (ptr p2)),(4,.v (.map (some mb))),(5,.v (ptr p3)),(6,.v (.func (.func 167) #[] #[ptr p1,ptr p2,ptr p3])),(11,.v (.int .i64 j)),(78,.v (.slice we.1.a we.2.length we.1.cap))]) (fun q=>seA a p1 p2 p3 sd q.2 q.1++[slA 3 wv we.1 we.2,mpA mb gm,wtA (W.eraseIdx j),ro m])
     (fun i q=>HI x.H q.1 W (200*pc) (pc+1) (fun i=>i=j) (fun i=>i=j)∧Grow (seen,init) q.1∧∀w,w∈we.2.take i→Hit x.H q.1.1 w) (((seen,init),kd):PQ) ⟨hI1,Grow.refl _,by simp⟩ (fun i q hi hv=>?_) (fun q hv=>?_) (hent:=Pm.ent pmt)
    ·obtain⟨w,gw⟩:∃w,we.2[i]?=some w:=⟨_,List.getElem?_eq_getElem hi⟩
     obtain⟨hv1,hv2,hv3⟩:=hv
     obtain⟨k1,k2⟩:=hI.wok j we hwe w (List.mem_of_getElem? gw)
     obtain⟨n1,n2,n3⟩:=hv1.mark (k2 hHj)
     repeat' (first|refine xx ?_|(refine k_L ?_;(refine a_cv rfl hfn rfl (holds1_a (p1:=p1) (p2:=p2) (p3:=p3) (sd:=sd) (kd:=q.2) (w:=w) (S:=Held x.H) h h1 h2 k1 hv1.mk') pmt (fun v As' hq=>?_);obtain⟨kd',rfl⟩:=hq))|fail)
     refine r_nx ((mkW x.H q.1 w,kd'):PQ) ⟨n1,hv2.trans n2,fun w' hw'=>?_⟩ (he:=Pm.ent pmt)
     rw[List.take_add_one,List.mem_append]at hw'
     rcases hw' with hw'|hw'
     ·exact(hv3 w' hw').grow n2
     ·rw[gw]at hw'
      simp only[Option.toList_some,List.mem_singleton]at hw'
      subst hw';exact n3
    ·obtain⟨hv1,hv2,hv3⟩:=hv
     rw[List.take_of_length_le (Nat.le_refl _)]at hv3
     have hI2:=hv1.clr hwe hv3
     repeat' (first|refine xx ?_|(refine k_L ?_;(refine a_md (by(fail_if_success apply pk_bad);(repeat(first|exact pk_h|apply pk_t));fail_if_success focus skip) rfl rfl ?_))|fail)
     refine VA.ent (Bs:=mpA mb (fun i=>if i=(j:Int)then none else gm i)::wtA (W.eraseIdx j)::(seA a p1 p2 p3 sd q.2 q.1++[ro m])) (Pm.ent pmt) ?_
     refine VA.ent (ent_wm (wm_clr hgm)) ?_
     refine VA.ent (Bs:=wtA (W.eraseIdx j)::wmA mb (W.set j wv0)::(seA a p1 p2 p3 sd q.2 q.1++[ro m])) (Pm.ent pmt) ?_
     refine VA.ent (ent_wclr (List.getElem?_eq_some_iff.1 hwe).1) ?_
     refine g_range y.c.pairs.length (fun q:PW=>[(1,.v (ptr p1)),(3,.v (ptr p2)),(4,.v (.map (some mb))),(5,.v (ptr p3)),(6,.v (.func (.func 167) #[] #[ptr p1,ptr p2,ptr p3])),(14,.box (csw y)),(98,.v (.slice y.d.a y.c.pairs.length y.d.cap))]) (fun q=>hoA m a p1 p2 p3 mb sd q)
      (fun k q=>HI x.H q.1.1 q.2 (200*pc+k) (pc+1) (fun i=>i=j) (fun _=>False)∧Grow (seen,init) q.1.1∧∀p,p∈y.c.pairs.take k→PairOk x.H q.1.1.1 q.2 y.c p) ((q,W.set j wv0):PW) ⟨hI2,hv2,by simp⟩ (fun k q hk hv=>?_) (fun q hv=>?_) (hent:=Pm.ent pmt)
     ·obtain⟨p,gp⟩:∃p,y.c.pairs[k]?=some p:=⟨_,List.getElem?_eq_getElem hk⟩
      have hpm:=List.mem_of_getElem? gp
      obtain⟨k1,v1,_⟩:=h4.pairs j y.c gc k p gp
      obtain⟨⟨qs,kd2⟩,Wq⟩:=q
      obtain⟨hv1,hv2,hv3⟩:=hv
      dsimp only at hv1 hv2 hv3⊢
      have ck:KeyW y.c→∀j',x.H.tgt p.key=some j'→j'<x.H.cells.length∧Held x.H j':=fun hK j' hj'=>⟨(tgt_lt h2 k1 hj').1,.key hHj gc hpm hK hj'⟩
      have cv:ValW y.c→(∀i,x.H.tgt p.key=some i→Held x.H i)→∀j',x.H.tgt p.val=some j'→j'<x.H.cells.length∧Held x.H j':=fun hV hH j' hj'=>⟨(tgt_lt h2 v1 hj').1,.val hHj gc hpm hV hH hj'⟩
      have hkey:HI x.H (keyS x.H y.c p qs) Wq (200*pc+k) (pc+1) (fun i=>i=j) (fun _=>False)∧Grow qs (keyS x.H y.c p qs)∧(KeyW y.c→Hit x.H (keyS x.H y.c p qs).1 p.key):=by
       unfold keyS
       by_cases hK:KeyW y.c
       ·rw[if_pos hK]
        obtain⟨a,b,d⟩:=hv1.mark (ck hK)
        exact⟨a,b,fun _=>d⟩
       ·rw[if_neg hK]
        exact⟨hv1,Grow.refl _,fun h=>absurd h hK⟩
      refine v_seq ?_
      repeat' (first
       |(refine k_L ?_;first|(refine k_i ?_;refine g_i rfl rfl ?_)|(refine k_ls ?_;refine g_ls rfl ?_)|(refine k_st ?_;refine g_sw rfl rfl rfl rfl (Nat.le_of_ble_eq_true rfl) ?_)|(refine k_al ?_;refine a_al ?_))
       |refine a_n ?_
       |(refine k_V ?_;refine v_reg ?_)
       |refine s_n ?_
       |refine sk_zero ?_
       |refine sk_succ ?_
       |refine wk_nil ?_
       |refine wk_cons ?_)
      refine g_cut (fun q2:PQ=>[(1,.v (ptr p1)),(3,.v (ptr p2)),(4,.v (.map (some mb))),(5,.v (ptr p3)),(6,.v (.func (.func 167) #[] #[ptr p1,ptr p2,ptr p3])),(14,.box (csw y)),(16,.box (pv p)),(98,.v (.slice y.d.a y.c.pairs.length y.d.cap)),(99,.v (.int .i64 y.c.pairs.length)),(100,.v (.int .i64 k))]) (fun q2=>hoA m a p1 p2 p3 mb sd (q2,Wq)) (fun q2=>q2.1=keyS x.H y.c p qs) ?_ (fun q2 hq2=>?_)
      ·by_cases hK:KeyW y.c
       ·have hkw:=hK
        unfold KeyW at hkw
        repeat' (first|refine xx ?_|(refine xy ?_ ?_<;>intro hb<;>try(exfalso;omega))|(refine k_L ?_;(refine a_cv rfl hfn rfl (holds1_a (p1:=p1) (p2:=p2) (p3:=p3) (sd:=sd) (kd:=kd2) (w:=p.key) (S:=Held x.H) h h1 h2 k1 hv1.mk') pmt (fun v As' hq=>?_);obtain⟨kd',rfl⟩:=hq))|fail)
        exact j_i ((mkW x.H qs p.key,kd'):PQ) (by unfold keyS;rw[if_pos hK]) (he:=Pm.ent pmt)
       ·have hkw:=hK
        unfold KeyW at hkw
        repeat' (first|refine xx ?_|(refine xy ?_ ?_<;>intro hb<;>try(exfalso;omega))|fail)
        exact j_i ((qs,kd2):PQ) (by unfold keyS;rw[if_neg hK]) (he:=Pm.ent pmt)
      ·obtain⟨q2,kd3⟩:=q2
       dsimp only at hq2⊢
       subst hq2
       obtain⟨a1,a2,a4⟩:=hkey
       generalize keyS x.H y.c p qs=ks at a1 a2 a4
       have hat:=fun hk2=>k1.at hk2
       have old:∀p',p'∈y.c.pairs.take k→PairOk x.H ks.1 Wq y.c p':=fun p' hp'=>(hv3 p' hp').grow a2
       have nx:∀{t:List Bool×List Int} {W':List WE},(∀p',PairOk x.H ks.1 Wq y.c p'→PairOk x.H t.1 W' y.c p')→PairOk x.H t.1 W' y.c p→∀p',p'∈y.c.pairs.take (k+1)→PairOk x.H t.1 W' y.c p':=fun ho hn p' hp'=>by
        rw[List.take_add_one,List.mem_append]at hp'
        rcases hp' with hp'|hp'
        ·exact ho p' (old p' hp')
        ·rw[gp]at hp'
         simp only[Option.toList_some,List.mem_singleton]at hp'
         subst hp';exact hn
       by_cases hV:ValW y.c
       ·have hvw:=hV
        unfold ValW at hvw
        by_cases hk2:p.key.kind=2
        ·have ht:x.H.tgt p.key=some (x.H.lead p.key).at_.toNat:=by unfold Heap.tgt;rw[if_pos (lead_kind.2 hk2)]
         have hlt:=tgt_lt h2 k1 ht
         generalize(x.H.lead p.key).at_.toNat=kk at ht hlt
         have e:x.H.toI p.key=(kk:Int):=by unfold Heap.toI;rw[if_pos hk2];exact hlt.2.2
         have hksl:=a1.mk'.len
         have hkl:=hlt.1
         obtain⟨b,gb⟩:∃b,ks.1[kk]?=some b:=⟨_,List.getElem?_eq_getElem (by rw[a1.mk'.len];exact hlt.1)⟩
         cases b with
         |true=>
          have hH:∀i,x.H.tgt p.key=some i→Held x.H i:=fun i hi=>by rw[ht]at hi;cases hi;exact a1.mk'.snd kk gb
          obtain⟨b1,b2,b3⟩:=a1.mark (cv hV hH)
          repeat' (first|refine xx ?_|(refine xy ?_ ?_<;>intro hb<;>try(exfalso;omega))|(refine k_L ?_;first|(refine k_c ?_;refine a_cq rfl (fun m hm=>qt_e (to_q (has_g h hm) hat) (by rw[e])) ?_)|(refine a_cv rfl hfn rfl (holds1_a (p1:=p1) (p2:=p2) (p3:=p3) (sd:=sd) (kd:=kd3) (w:=p.val) (S:=Held x.H) h h1 h2 v1 a1.mk') pmt (fun v As' hq=>?_);obtain⟨kd',rfl⟩:=hq))|fail)
          exact r_nx (((mkW x.H ks p.val,kd'),Wq):PW) ⟨b1.weak (by omega),(hv2.trans a2).trans b2,nx (fun p' hp'=>hp'.grow b2) ⟨fun hK=>(a4 hK).grow b2,fun _=>.inl b3⟩⟩ (he:=Pm.ent pmt)
         |false=>
          obtain⟨wk,hwk⟩:∃wk,Wq[kk]?=some wk:=⟨_,List.getElem?_eq_getElem (by rw[a1.wl];exact hlt.1)⟩
          have hwkl:=a1.wlen wk (List.mem_of_getElem? hwk)
          have hpc:=a1.pc
          have hkkl:=(List.getElem?_eq_some_iff.1 hwk).1
          refine VA.ent (Bs:=wmA mb Wq::wtA Wq::(seA a p1 p2 p3 sd kd3 ks++[ro m])) (Pm.ent pmt) ?_
          refine v_wm (fun gw hgw=>?_)
          have hlk2:(gw (kk:Int)).getD (.slice none 0 0)=.slice wk.1.a wk.2.length wk.1.cap:=hgw kk wk hwk
          refine VA.ent (Bs:=wtA Wq::mpA mb gw::(seA a p1 p2 p3 sd kd3 ks++[ro m])) (Pm.ent pmt) ?_
          refine VA.ent (ent_wout hwk) ?_
          repeat' (first|refine xx ?_|(refine xy ?_ ?_<;>intro hb<;>try(exfalso;omega))|(refine k_L ?_;first|(refine k_c ?_;refine a_cq rfl (fun m hm=>qt_e (to_q (has_g h hm) hat) (by rw[e])) ?_)|(refine a_lk (by(fail_if_success apply pk_bad);(repeat(first|exact pk_h|apply pk_t));fail_if_success focus skip) rfl rfl hlk2 ?_)|(refine g_ap (f:=wv) p.val wv_len rfl rfl rfl ⟨by omega,by omega⟩ (fun e'=>?_))|(refine a_mu (by(fail_if_success apply pk_bad);(repeat(first|exact pk_h|apply pk_t));fail_if_success focus skip) rfl rfl rfl ?_))|fail)
          obtain⟨c1,c2⟩:=a1.wait (d:=e') (w:=p.val) hwk gb ⟨v1,fun hHk=>cv hV (fun i hi=>by rw[ht]at hi;cases hi;exact hHk)⟩
          refine r_nx (((ks,kd3),Wq.set kk (e',wk.2++[p.val])):PW) ⟨c1.weak (by omega),hv2.trans a2,nx (fun p' hp'=>c2 y.c p' hp') ⟨a4,fun _=>.inr ⟨kk,(e',wk.2++[p.val]),ht,by rw[List.getElem?_set,if_pos rfl,if_pos hkkl],by simp⟩⟩⟩ (he:=?_)
          refine Ent.trans (B:=slA 3 wv e' (wk.2++[p.val])::wtA (Wq.eraseIdx kk)::mpA mb (fun i=>if i=(kk:Int)then some (WE.sl (e',wk.2++[p.val]))else gw i)::(seA a p1 p2 p3 sd kd3 ks++[ro m])) (Pm.ent pmt) ?_
          refine Ent.trans (ent_win (e':=(e',wk.2++[p.val])) hkkl) ?_
          refine Ent.trans (B:=mpA mb (fun i=>if i=(kk:Int)then some (WE.sl (e',wk.2++[p.val]))else gw i)::wtA (Wq.set kk (e',wk.2++[p.val]))::(seA a p1 p2 p3 sd kd3 ks++[ro m])) (Pm.ent pmt) ?_
          refine Ent.trans (ent_wm (wm_put hgw)) ?_
          exact Pm.ent pmt
        ·have ht:x.H.tgt p.key=none:=by unfold Heap.tgt;rw[if_neg (fun h=>hk2 (lead_kind.1 h))]
         have e:x.H.toI p.key= -1:=by unfold Heap.toI;rw[if_neg hk2]
         have hH:∀i,x.H.tgt p.key=some i→Held x.H i:=fun i hi=>by rw[ht]at hi;cases hi
         obtain⟨b1,b2,b3⟩:=a1.mark (cv hV hH)
         repeat' (first|refine xx ?_|(refine xy ?_ ?_<;>intro hb<;>try(exfalso;omega))|(refine k_L ?_;first|(refine k_c ?_;refine a_cq rfl (fun m hm=>qt_e (to_q (has_g h hm) hat) (by rw[e])) ?_)|(refine a_cv rfl hfn rfl (holds1_a (p1:=p1) (p2:=p2) (p3:=p3) (sd:=sd) (kd:=kd3) (w:=p.val) (S:=Held x.H) h h1 h2 v1 a1.mk') pmt (fun v As' hq=>?_);obtain⟨kd',rfl⟩:=hq))|fail)
         exact r_nx (((mkW x.H ks p.val,kd'),Wq):PW) ⟨b1.weak (by omega),(hv2.trans a2).trans b2,nx (fun p' hp'=>hp'.grow b2) ⟨fun hK=>(a4 hK).grow b2,fun _=>.inl b3⟩⟩ (he:=Pm.ent pmt)
       ·have hvw:=hV
        unfold ValW at hvw
        repeat' (first|refine xx ?_|(refine xy ?_ ?_<;>intro hb<;>try(exfalso;omega))|fail)
        exact r_ct (((ks,kd3),Wq):PW) ⟨a1.weak (by omega),hv2.trans a2,nx (fun p' hp'=>hp') ⟨a4,fun h=>absurd h hV⟩⟩ (he:=Pm.ent pmt)
     ·obtain⟨hv1,hv2,hv3⟩:=hv
      rw[List.take_of_length_le (Nat.le_refl _)]at hv3
      have hI3:=(hv1.done gc hv3).weak (B':=200*(pc+1)) (by omega)
      repeat' (first|refine xx ?_|fail)
      refine⟨_,q,?_,⟨rfl,rfl,rfl,rfl,rfl,trivial⟩,Pm.ent pmt,rfl,⟨pc+1,hI3⟩,⟨fun w hw=>(hfull.regs w hw).grow hv2,fun i c hc hl2=>hv2.mono i (hfull.dues i c hc hl2)⟩⟩
      have:=hv2.msr
      dsimp only at this
      omega
theorem pr_repl{ys:List CS}{i:Nat}{y y':CS}{R:List Asr}(hi:ys[i]?=some y):Ent (prA ys::slA 6 pv y'.d y'.c.pairs::R) (prA (ys.set i y')::R):=⟨fun m hm=>by
 obtain⟨a,r,dj,rfl,h1,b,c,d2,rfl,h2,h3⟩:=hm
 obtain⟨a1,a2,d1,rfl,k1,k2⟩:=star2.1 (pr_out hi h1)
 have hlt:=(List.getElem?_eq_some_iff.1 hi).1
 obtain⟨e1,e2⟩:=disj_un.1 dj
 have e3:=(disj_un'.1 e1).2
 have e4:=(disj_un'.1 e2).2
 have s1:prA (ys.set i y') (b.un a2):=pr_in hlt (star2.2 ⟨b,a2,e3.symm,rfl,h2,k2⟩)
 refine⟨(b.un a2).un c,?_,_,c,disj_un'.2 ⟨d2,e4⟩,rfl,s1,h3⟩
 intro x k hk
 cases h:(b.un a2) x with
 |some k'=>
  rw[un_l h]at hk;cases hk
  cases hb:b x with
  |some k2=>rw[un_l hb]at h;cases h;exact un_r dj (un_l hb)
  |none=>rw[un_n hb]at h;exact un_l (un_r d1 h)
 |none=>rw[un_n h]at hk;exact un_r dj (un_r d2 hk)⟩
theorem a_cs{P:Program}{S:St}{As R:List Asr}{post:St→List Asr→Prop}{r:List I}{x v:Operand}{cd d:D}{ys:List CS}{i:Nat}{y:CS}(ps:List Pair)(hi:ys[i]?=some y)(hx:lc S x=some (.mm cd.b (cd.o+i*8+7)))(hy:ev S v=some (.slice d.a ps.length d.cap))
 (hp:LA P r post S (clA cd (ys.set i ⟨{y.c with pairs:=ps},d.a,d.cap⟩)::R)) (hm:Pm As [clA cd ys,slA 6 pv d ps] R:=by exact pmt):LA P (⟨none,none,.store 1 x v⟩::r) post S As:=by
 refine LA.ent (Bs:=slA 8 csv cd ys::prA ys::slA 6 pv d ps::R) ?_ ?_
 ·refine Ent.trans ⟨fun m hm'=>⟨m,Mem.le_refl _,hm.out m hm'⟩⟩ ?_
  exact cl_open
 refine a_st (n:=1) hx hy rfl rfl (up_h (up_sl (j:=7) (e':=⟨{y.c with pairs:=ps},d.a,d.cap⟩) csv_len hi (by simp[Value.cells]) rfl)) ?_
 refine LA.ent ?_ hp
 refine Ent.trans (Ent.cons (pr_repl (y':=⟨{y.c with pairs:=ps},d.a,d.cap⟩) hi)) ?_
 exact cl_close
theorem tgt_toI{H:Heap}{w:Word}(h2:R2 H)(hf:Formed H w):(∃j:Nat,H.tgt w=some j∧H.toI w=j∧j<H.cells.length)∨(H.tgt w=none∧H.toI w= -1):=by
 by_cases hk:w.kind=2
 ·left
  have ht:H.tgt w=some (H.lead w).at_.toNat:=by unfold Heap.tgt;rw[if_pos (lead_kind.2 hk)]
  have hl:=tgt_lt h2 hf ht
  refine⟨_,ht,?_,hl.1⟩
  unfold Heap.toI
  rw[if_pos hk];exact hl.2.2
 ·right
  refine⟨?_,toI_no hk⟩
  unfold Heap.tgt
  rw[if_neg (fun h=>hk (lead_kind.1 h))]
theorem heldL_get{H:Heap}{j:Nat}(h:j<H.cells.length):(heldL H)[j]?=some (decide (Held H j)):=by
 unfold heldL
 rw[List.getElem?_map,List.getElem?_range h];rfl
theorem Like.toI{H K:Heap}(h:Like H K)(w:Word):K.toI w=H.toI w:=by
 unfold Heap.toI
 rw[h.lead]
theorem Like.formed{H K:Heap}(h:Like H K){w:Word}(hf:Formed H w):Formed K w:=formed_len h.len hf
theorem lost_q{m:Mem}{a b1 b2:Nat}{z:HX}{H:Heap}{sd:D}{w:Word}(h:Has m (hp a z))(hb:Has m [bx b1 [ptr a],bx b2 [.slice sd.a (heldL H).length sd.cap],slA 1 bv sd (heldL H)])(h2:R2 H)(hl:Like H z.H)(hf:Formed H w):
 Qt Tryz.prog 166 [wa w,ptr b1,ptr b2] m (.bool (decide (Lost H w))):=by
 refine qt_of (fnA_of (fun h=>fn166 (by simp) h) ?_)
 have hat:=fun hk=>(hl.formed hf).at hk
 have hln:=heldL_len H
 rcases tgt_toI h2 hf with⟨j,ht,he,hj⟩|⟨ht,he⟩
 ·have hg:=heldL_get hj
  by_cases hh:Held H j
  ·rw[decide_eq_true hh]at hg
   repeat' (first|(refine k_L ?_;(refine k_l ?_;first|refine a_l rfl (by exact rd_h (rd_ro hb (rd_h (rd_bx rfl)))) ?_|refine a_l rfl (by exact rd_h (rd_ro hb (rd_t (rd_h (rd_bx rfl))))) ?_|refine a_l rfl (by exact rd_h (rd_ro hb (rd_t (rd_t (rd_h (r_bool hg)))))) ?_))|refine xx ?_|(refine k_L ?_;(refine k_c ?_;refine a_cq rfl (fun m hm=>qt_e (to_q (x:=z) (has_g h hm) hat) (by rw[hl.toI,he])) ?_))|fail)
   exact fa_q (by simp) (fun _ _=>rfl) (ret_f (fun⟨k,hk,hn⟩=>by rw[ht]at hk;cases hk;exact hn hh))
  ·rw[decide_eq_false hh]at hg
   repeat' (first|(refine k_L ?_;(refine k_l ?_;first|refine a_l rfl (by exact rd_h (rd_ro hb (rd_h (rd_bx rfl)))) ?_|refine a_l rfl (by exact rd_h (rd_ro hb (rd_t (rd_h (rd_bx rfl))))) ?_|refine a_l rfl (by exact rd_h (rd_ro hb (rd_t (rd_t (rd_h (r_bool hg)))))) ?_))|refine xx ?_|(refine k_L ?_;(refine k_c ?_;refine a_cq rfl (fun m hm=>qt_e (to_q (x:=z) (has_g h hm) hat) (by rw[hl.toI,he])) ?_))|fail)
   exact fa_q (by simp) (fun _ _=>rfl) (ret_t ⟨j,ht,hh⟩)
 ·repeat' (first|(refine k_L ?_;(refine k_l ?_;refine a_l rfl (by exact rd_h (rd_ro hb (rd_h (rd_bx rfl)))) ?_))|refine xx ?_|(refine k_L ?_;(refine k_c ?_;refine a_cq rfl (fun m hm=>qt_e (to_q (x:=z) (has_g h hm) hat) (by rw[hl.toI,he])) ?_))|fail)
  exact fa_q (by simp) (fun _ _=>rfl) (ret_f (fun⟨k,hk,hn⟩=>by rw[ht]at hk;cases hk))
theorem l4lost_q{m:Mem}{a:Nat}{z:HX}{H:Heap}{sd:D}{w:Word}(h:Has m (hp a z))(hbb:Has m [slA 1 bv sd (heldL H)])(h2:R2 H)(hl:Like H z.H)(hf:Formed H w):
 Qt Tryz.prog 98 [ptr a,.slice sd.a (heldL H).length sd.cap,wa w] m (.bool (decide (Lost H w))):=by
 refine qt_of (fnA_of (fun h=>fn98 (by simp) h) ?_)
 have hat:=fun hk=>(hl.formed hf).at hk
 have hln:=heldL_len H
 have hle:=hl.lead w
 rcases tgt_toI h2 hf with⟨j,ht,he,hj⟩|⟨ht,he⟩
 ·have hg:=heldL_get hj
  have hlk:=(tgt_lt h2 hf ht).2
  have hkk:(H.lead w).kind=2:=hlk.1
  have hka:(H.lead w).at_=j:=hlk.2
  by_cases hh:Held H j
  ·rw[decide_eq_true hh]at hg
   have hg':(heldL H)[(H.lead w).at_.toNat]?=some true:=by rw[hka];exact hg
   repeat' (first|(refine k_L ?_;(refine k_l ?_;refine a_l rfl (by exact rd_h (rd_ro hbb (rd_h (r_bool hg')))) ?_))|refine xx ?_|(refine xy ?_ ?_<;>intro hb<;>try(exfalso;omega))|(refine k_L ?_;(refine k_c ?_;refine a_cq rfl (fun m hm=>qt_e (l1resolve_q (x:=z) (has_g h hm) hat) (by rw[hle])) ?_))|fail)
   exact fa_q (by simp) (fun _ _=>rfl) (ret_f (fun⟨k,hk,hn⟩=>by rw[ht]at hk;cases hk;exact hn hh))
  ·rw[decide_eq_false hh]at hg
   have hg':(heldL H)[(H.lead w).at_.toNat]?=some false:=by rw[hka];exact hg
   repeat' (first|(refine k_L ?_;(refine k_l ?_;refine a_l rfl (by exact rd_h (rd_ro hbb (rd_h (r_bool hg')))) ?_))|refine xx ?_|(refine xy ?_ ?_<;>intro hb<;>try(exfalso;omega))|(refine k_L ?_;(refine k_c ?_;refine a_cq rfl (fun m hm=>qt_e (l1resolve_q (x:=z) (has_g h hm) hat) (by rw[hle])) ?_))|fail)
   exact fa_q (by simp) (fun _ _=>rfl) (ret_t ⟨j,ht,hh⟩)
 ·have hkk:(H.lead w).kind≠2:=fun e=>by
   unfold Heap.tgt at ht
   rw[if_pos e]at ht;cases ht
  repeat' (first|refine xx ?_|(refine xy ?_ ?_<;>intro hb<;>try(exfalso;omega))|(refine k_L ?_;(refine k_c ?_;refine a_cq rfl (fun m hm=>qt_e (l1resolve_q (x:=z) (has_g h hm) hat) (by rw[hle])) ?_))|fail)
  exact fa_q (by simp) (fun _ _=>rfl) (ret_f (fun⟨k,hk,hn⟩=>by rw[ht]at hk;cases hk))
theorem walked_q{m:Mem}{a:Nat}{x:HX}(h:Has m (hp a x)):Qt Tryz.prog 163 [ptr a] m (.int .i64 x.H.walkedI):=by
 refine qt_of (fnA_of (fun h=>fn163 (by simp) h) ?_)
 have hnc:x.hdr.nc=x.xs.length:=rfl
 have hng:x.hdr.ng=x.gray.length:=rfl
 have hl:=x.len
 have hp0:x.hdr.phase=x.H.phase:=rfl
 have hh0:x.hdr.hand=x.H.hand:=rfl
 have hlen:=h.lens
 unfold Heap.walkedI
 by_cases c:x.H.phase=2∧x.H.gray≠[]
 ·rw[if_pos c]
  obtain⟨g,r,hg⟩:∃g r,x.gray=g::r:=by
   cases e:x.gray with
   |nil=>exact absurd (show x.H.gray=[]from e) c.2
   |cons g r=>exact⟨g,r,rfl⟩
  have hgl:x.gray.length=r.length+1:=by rw[hg];rfl
  have gg:x.gray[(0:Int).toNat]?=some g:=by rw[hg];rfl
  have c1:=c.1
  have e1:x.H.gray.headD 0=g:=by show x.gray.headD 0=g;rw[hg];rfl
  rw[e1]
  repeat' (first|refine xx ?_|(refine xy ?_ ?_<;>intro hb<;>try(exfalso;omega))|fail)
  exact fa_q (by simp) (fun _ _=>rfl) rfl
 ·rw[if_neg c]
  have hgz:x.H.phase=2→x.gray.length=0:=fun e=>by
   cases e2:x.gray with
   |nil=>rfl
   |cons g r=>exact absurd ⟨e,by show x.gray≠[];rw[e2];simp⟩ c
  by_cases c2:x.H.phase=5∧x.H.hand<x.H.cells.length
  ·rw[if_pos c2]
   have c3:=c2.1
   have c4:=c2.2
   repeat' (first|refine xx ?_|(refine xy ?_ ?_<;>intro hb<;>try(exfalso;omega))|fail)
   all_goals exact fa_q (by simp) (fun _ _=>rfl) rfl
  ·rw[if_neg c2]
   have c5:x.H.phase=5→¬x.H.hand<x.H.cells.length:=fun a b=>c2 ⟨a,b⟩
   repeat' (first|refine xx ?_|(refine xy ?_ ?_<;>intro hb<;>try(exfalso;omega))|fail)
   all_goals exact fa_q (by simp) (fun _ _=>rfl) rfl
theorem l4scanned_q{m:Mem}{a:Nat}{x:HX}(h:Has m (hp a x)):Qt Tryz.prog 133 [ptr a] m (.int .i64 x.H.walkedI):=by
 refine qt_of (fnA_of (fun h=>fn133 (by simp) h) ?_)
 have hnc:x.hdr.nc=x.xs.length:=rfl
 have hng:x.hdr.ng=x.gray.length:=rfl
 have hl:=x.len
 have hp0:x.hdr.phase=x.H.phase:=rfl
 have hh0:x.hdr.hand=x.H.hand:=rfl
 have hlen:=h.lens
 unfold Heap.walkedI
 by_cases c:x.H.phase=2∧x.H.gray≠[]
 ·rw[if_pos c]
  obtain⟨g,r,hg⟩:∃g r,x.gray=g::r:=by
   cases e:x.gray with
   |nil=>exact absurd (show x.H.gray=[]from e) c.2
   |cons g r=>exact⟨g,r,rfl⟩
  have hgl:x.gray.length=r.length+1:=by rw[hg];rfl
  have gg:x.gray[(0:Int).toNat]?=some g:=by rw[hg];rfl
  have c1:=c.1
  have e1:x.H.gray.headD 0=g:=by show x.gray.headD 0=g;rw[hg];rfl
  rw[e1]
  repeat' (first|refine xx ?_|(refine xy ?_ ?_<;>intro hb<;>try(exfalso;omega))|fail)
  exact fa_q (by simp) (fun _ _=>rfl) rfl
 ·rw[if_neg c]
  have hgz:x.H.phase=2→x.gray.length=0:=fun e=>by
   cases e2:x.gray with
   |nil=>rfl
   |cons g r=>exact absurd ⟨e,by show x.gray≠[];rw[e2];simp⟩ c
  by_cases c2:x.H.phase=5∧x.H.hand<x.H.cells.length
  ·rw[if_pos c2]
   have c3:=c2.1
   have c4:=c2.2
   repeat' (first|refine xx ?_|(refine xy ?_ ?_<;>intro hb<;>try(exfalso;omega))|fail)
   all_goals exact fa_q (by simp) (fun _ _=>rfl) rfl
  ·rw[if_neg c2]
   have c5:x.H.phase=5→¬x.H.hand<x.H.cells.length:=fun a b=>c2 ⟨a,b⟩
   repeat' (first|refine xx ?_|(refine xy ?_ ?_<;>intro hb<;>try(exfalso;omega))|fail)
   all_goals exact fa_q (by simp) (fun _ _=>rfl) rfl
theorem like_us{H K:Heap}(h:Like H K)(u s:Int):Like H {K with used:=u,sub:=s}:=⟨h.len,h.cell,h.regs,h.gray,h.phase,h.hand,h.room,h.born,h.per,h.start,h.rounds,h.forced⟩
theorem keyw_no{c:Cell}(h:IntKind.i64.wrap (BitVec.ofInt IntKind.i64.bits c.weak&&&BitVec.ofInt IntKind.i64.bits 1).toNat≠0):¬KeyW c:=h
theorem keyw_yes{c:Cell}(h:IntKind.i64.wrap (BitVec.ofInt IntKind.i64.bits c.weak&&&BitVec.ofInt IntKind.i64.bits 1).toNat=0):KeyW c:=h
theorem valw_no{c:Cell}(h:IntKind.i64.wrap (BitVec.ofInt IntKind.i64.bits c.weak&&&BitVec.ofInt IntKind.i64.bits 2).toNat≠0):¬ValW c:=h
theorem valw_yes{c:Cell}(h:IntKind.i64.wrap (BitVec.ofInt IntKind.i64.bits c.weak&&&BitVec.ofInt IntKind.i64.bits 2).toNat=0):ValW c:=h
abbrev stR(H:Heap)(a b1 b2:Nat)(sd:D):List Asr:=[bx b1 [ptr a],bx b2 [.slice sd.a (heldL H).length sd.cap],slA 1 bv sd (heldL H)]
abbrev lostV(b1 b2:Nat):Value:=.func (.func 166) #[] #[ptr b1,ptr b2]
noncomputable def HX.ck(z:HX)(H:Heap)(c:Cell)(i k:Nat):HX:={z with used:=z.used-nGone H c (c.pairs.take k),sub:=if H.walkedI=i then z.sub-nGone H c (c.pairs.take (min k z.sub.toNat))else z.sub}
theorem ck_0(z:HX)(H:Heap)(c:Cell)(i:Nat):z.ck H c i 0=z:=by
 unfold HX.ck
 have e:nGone H c (c.pairs.take 0)=0:=rfl
 rw[Nat.zero_min,e]
 simp
theorem take_s{c:Cell}{k:Nat}{p:Pair}(hp:c.pairs[k]?=some p):c.pairs.take (k+1)=c.pairs.take k++[p]:=by rw[List.take_add_one,hp];rfl
theorem ck_keep{z:HX}{H:Heap}{c:Cell}{i k:Nat}{p:Pair}(hp:c.pairs[k]?=some p)(hg:¬GoneP H c p):z.ck H c i (k+1)=z.ck H c i k:=by
 unfold HX.ck
 have e1:nGone H c (c.pairs.take (k+1))=nGone H c (c.pairs.take k):=by rw[take_s hp,nGone_app,nGone_one,if_neg hg];rfl
 have e2:nGone H c (c.pairs.take (min (k+1) z.sub.toNat))=nGone H c (c.pairs.take (min k z.sub.toNat)):=by
  by_cases h:k<z.sub.toNat
  ·rw[Nat.min_eq_left (by omega),Nat.min_eq_left (by omega),e1]
  ·rw[Nat.min_eq_right (by omega),Nat.min_eq_right (by omega)]
 rw[e1,e2]
theorem ck_gone{z:HX}{H:Heap}{c:Cell}{i k:Nat}{p:Pair}(hp:c.pairs[k]?=some p)(hg:GoneP H c p):z.ck H c i (k+1)={z.ck H c i k with used:=(z.ck H c i k).used-1,sub:=if H.walkedI=i∧(k:Int)<z.sub then(z.ck H c i k).sub-1 else(z.ck H c i k).sub}:=by
 have e1:nGone H c (c.pairs.take (k+1))=nGone H c (c.pairs.take k)+1:=by rw[take_s hp,nGone_app,nGone_one,if_pos hg]
 have hu:(z.ck H c i (k+1)).used=(z.ck H c i k).used-1:=by
  show z.used-(nGone H c (c.pairs.take (k+1)):Nat)=z.used-(nGone H c (c.pairs.take k):Nat)-1
  rw[e1];omega
 have hs:(z.ck H c i (k+1)).sub=if H.walkedI=i∧(k:Int)<z.sub then(z.ck H c i k).sub-1 else(z.ck H c i k).sub:=by
  show(if H.walkedI=i then z.sub-(nGone H c (c.pairs.take (min (k+1) z.sub.toNat)):Nat)else z.sub)=if H.walkedI=i∧(k:Int)<z.sub then(if H.walkedI=i then z.sub-(nGone H c (c.pairs.take (min k z.sub.toNat)):Nat)else z.sub)-1 else(if H.walkedI=i then z.sub-(nGone H c (c.pairs.take (min k z.sub.toNat)):Nat)else z.sub)
  by_cases hw:H.walkedI=i
  ·by_cases h:(k:Int)<z.sub
   ·have m1:min (k+1) z.sub.toNat=k+1:=by omega
    have m2:min k z.sub.toNat=k:=by omega
    rw[m1,m2,e1]
    simp only[hw,h,and_self,if_true]
    omega
   ·have m1:min (k+1) z.sub.toNat=z.sub.toNat:=by omega
    have m2:min k z.sub.toNat=z.sub.toNat:=by omega
    rw[m1,m2]
    simp only[hw,h,and_false,if_true,if_false]
  ·simp only[hw,false_and,if_false]
 show({z with used:=(z.ck H c i (k+1)).used,sub:=(z.ck H c i (k+1)).sub}:HX)=_
 rw[hu,hs]
 rfl
theorem like_ck{H:Heap}{z:HX}{c:Cell}{i k:Nat}(h:Like H z.H):Like H (z.ck H c i k).H:=like_us h _ _
theorem settle_a{a:Nat}{x:HX}(h:Sound x.H):FnA Tryz.prog 153 [ptr a] (hp a x) (fun v As=>∃z:HX,v=.tuple #[.int .i64 (g1 x.H x.H.cells.length:Nat),.int .i64 (d2 x.H x.H.cells.length:Nat)]∧As=hp a z∧z.H=x.H.settleH):=by
 obtain⟨q1,q2,q3⟩:=sound_gray h
 have hl:=x.len
 have hnc:x.hdr.nc=x.xs.length:=rfl
 have h2:=h.r2
 have hrm:=h.r1.room
 have hsb:=h.r1.sub
 have hus:=h.r3
 have hun:=pairsN_units h2
 have hpn:=pairsN_nonneg x.H.cells
 unfold R3 at hus
 have hln:=heldL_len x.H
 refine fnA_of (fun h=>fn153 (by simp) h) ?_
 repeat' (first|refine xx ?_|(refine k_L ?_;first|(refine a_nw (vs:=[ptr a]) rfl rfl (fun b1=>?_))|(refine g_c rfl (fna_ro (q:=fun v E=>∃sd:D,v=.slice sd.a (heldL x.H).length sd.cap∧E=[slA 1 bv sd (heldL x.H)]) (Bs:=hp a x) (fun m hm=>(holds_a (has_star hm) h.r1 h.r2 h.r4).mono (fun v As ⟨sd,e1,e2⟩=>⟨_,⟨sd,e1,rfl⟩,e2⟩))) (fun v As' hq=>?_);obtain⟨_,⟨sd,rfl,rfl⟩,rfl⟩:=hq))|fail)
 refine a_nz (fun b2=>?_)
 repeat' (first|refine xx ?_|(refine k_L ?_;(refine g_sb rfl rfl rfl rfl ?_))|fail)
 refine g_range x.xs.length (fun q:HX×Nat=>[(1,.v (ptr b1)),(2,.v (.int .i64 q.2)),(3,.v (.int .i64 0)),(4,.v (ptr b2)),(5,.v (lostV b1 b2))]) (fun q=>hp a q.1++stR x.H a b1 b2 sd) (fun i q=>q.1.H=p1 x.H i∧q.2=g1 x.H i) ((x,0):HX×Nat) ⟨rfl,rfl⟩ (fun i q hi hv=>?_) (fun q hv=>?_)
 ·obtain⟨z,g⟩:=q
  obtain⟨hz,hg⟩:=hv
  simp only at hz hg
  subst hg
  dsimp only
  obtain⟨lk,lc,lla,lu,ls1,ls2⟩:=p1_ok x.H i (by omega)
  rw[←hz]at lk lc lla lu ls1 ls2
  have hzl:=z.len
  have hzn:z.hdr.nc=z.xs.length:=rfl
  have hzx:z.xs.length=x.xs.length:=by rw[←hzl,lk.len,hl]
  obtain⟨y,gy,gyc⟩:=HX.at (x:=z) (i:=i) (by omega)
  have gk:=HX.gc gy
  have gx:x.H.getC i=y.c:=by rw[←lc i (Nat.le_refl _)];exact gk
  have gxs:=getL_some (cs:=x.H.cells) (j:=i) (by omega) (by omega)
  rw[Int.toNat_natCast,←getC_L,gx]at gxs
  have hpl:=h2.pl (List.mem_of_getElem? gxs)
  have hg1:=g1_le h2 i
  have hzu:z.used=x.H.used-g1 x.H i:=lu
  have hzs1:x.H.sub-g1 x.H i≤z.sub:=ls1
  have hzs2:z.sub≤x.H.sub:=ls2
  have hgi:=heldL_get (H:=x.H) (j:=i) (by omega)
  have eg:g1 x.H (i+1)=if Held x.H i then g1 x.H i+nGone x.H y.c y.c.pairs else g1 x.H i:=by show(if _ then _ else _)=_;rw[gx]
  have ep:p1 x.H (i+1)=if Held x.H i then x.H.cutC z.H i else z.H:=by show(if _ then _ else _)=_;rw[hz]
  have gy':z.xs[(i:Int).toNat]?=some y:=gy
  by_cases hh:Held x.H i
  ·rw[decide_eq_true hh]at hgi
   rw[if_pos hh]at eg ep
   have hgi':(heldL x.H)[(i:Int).toNat]?=some true:=hgi
   repeat' (first|refine xx ?_|fail)
   refine VA.ent (ent_new (f:=pv) (size:=6)) ?_
   refine g_range y.c.pairs.length (fun q:(List Pair×D)×Nat=>[(2,.v (.int .i64 (g1 x.H i+nGone x.H y.c (y.c.pairs.take q.2):Nat))),(8,.v (.slice q.1.2.a q.1.1.length q.1.2.cap)),(1,.v (ptr b1)),(3,.v (.int .i64 0)),(4,.v (ptr b2)),(5,.v (lostV b1 b2)),(6,.v (.int .i64 i)),(7,.v (.pointer (some ⟨z.cd.b,z.cd.o+i*8,none⟩))),(9,.v (.int .i64 z.sub)),(43,.v (.slice y.d.a y.c.pairs.length y.d.cap)),(22,.v (.int .i64 i)),(21,.v (.int .i64 x.xs.length))]) (fun q=>slA 6 pv q.1.2 q.1.1::(hp a (z.ck x.H y.c i q.2)++stR x.H a b1 b2 sd)) (fun k q=>q.2=k∧q.1.1=kept x.H y.c (y.c.pairs.take k)) ((([],⟨none,0⟩),0):(List Pair×D)×Nat) ⟨rfl,rfl⟩ (fun k q hk hv=>?_) (fun q hv=>?_) (hent:=by
    dsimp only
    rw[ck_0]
    exact Pm.ent pmt)
   ·obtain⟨⟨ps,kd⟩,k0⟩:=q
    obtain⟨hk0,hps⟩:=hv
    simp only at hk0 hps
    subst hps;subst hk0
    dsimp only
    obtain⟨p,gp⟩:∃p,y.c.pairs[k0]?=some p:=⟨_,List.getElem?_eq_getElem hk⟩
    obtain⟨pf1,pf2,_⟩:=h.r4.pairs i y.c gxs k0 p gp
    have gw:=like_ck (z:=z) (c:=y.c) (i:=i) (k:=k0) lk
    have hcu:(z.ck x.H y.c i k0).hdr.used=z.used-nGone x.H y.c (y.c.pairs.take k0):=rfl
    have hcs1:(z.ck x.H y.c i k0).hdr.sub≤z.sub∧z.sub-200≤(z.ck x.H y.c i k0).hdr.sub:=by
     show(if x.H.walkedI=i then z.sub-(nGone x.H y.c (y.c.pairs.take (min k0 z.sub.toNat)):Nat)else z.sub)≤z.sub∧z.sub-200≤(if x.H.walkedI=i then z.sub-(nGone x.H y.c (y.c.pairs.take (min k0 z.sub.toNat)):Nat)else z.sub)
     have:=nGone_le x.H y.c (y.c.pairs.take (min k0 z.sub.toNat))
     have h3:(y.c.pairs.take (min k0 z.sub.toNat)).length≤y.c.pairs.length:=by rw[List.length_take];omega
     split<;>omega
    have hng:nGone x.H y.c (y.c.pairs.take k0)≤200:=by
     have:=nGone_le x.H y.c (y.c.pairs.take k0)
     have h3:(y.c.pairs.take k0).length≤y.c.pairs.length:=by rw[List.length_take];omega
     omega
    have gyk:(z.ck x.H y.c i k0).xs[i]?=some y:=gy
    refine v_seq ?_
    repeat' (first
     |(refine k_L ?_;first|refine a_p rfl ?_|(refine k_i ?_;refine g_i rfl rfl ?_)|(refine k_ls ?_;refine g_ls rfl ?_)|(refine k_st ?_;refine g_sw rfl rfl rfl rfl (Nat.le_of_ble_eq_true rfl) ?_)|(refine k_al ?_;refine a_al ?_))
     |refine a_n ?_
     |(refine k_V ?_;refine v_reg ?_)
     |refine s_n ?_
     |refine sk_zero ?_
     |refine sk_succ ?_
     |refine wk_nil ?_
     |refine wk_cons ?_)
    refine v_seq ?_
    refine g_cut (fun _:Unit=>[(75,.v (.bool (decide (GoneP x.H y.c p)))),(10,.v (.int .i64 k0)),(11,.box (pv p)),(45,.v (.int .i64 k0)),(44,.v (.int .i64 y.c.pairs.length)),(2,.v (.int .i64 (g1 x.H i+nGone x.H y.c (y.c.pairs.take k0):Nat))),(8,.v (.slice kd.a (kept x.H y.c (y.c.pairs.take k0)).length kd.cap)),(1,.v (ptr b1)),(3,.v (.int .i64 0)),(4,.v (ptr b2)),(5,.v (lostV b1 b2)),(6,.v (.int .i64 i)),(7,.v (.pointer (some ⟨z.cd.b,z.cd.o+i*8,none⟩))),(9,.v (.int .i64 z.sub)),(43,.v (.slice y.d.a y.c.pairs.length y.d.cap)),(22,.v (.int .i64 i)),(21,.v (.int .i64 x.xs.length))]) (fun _=>slA 6 pv kd (kept x.H y.c (y.c.pairs.take k0))::(hp a (z.ck x.H y.c i k0)++stR x.H a b1 b2 sd)) (fun _=>True) ?_ (fun _ _=>?_)
    ·repeat' (first|refine xx ?_|(refine xy ?_ ?_<;>intro hb<;>try(exfalso;omega))|(refine k_L ?_;first|(refine a_cvq rfl (fnOk_of Tryz.func166 rfl rfl) rfl (fun m hm=>lost_q (z:=z.ck x.H y.c i k0) (H:=x.H) (sd:=sd) (w:=p.key) (sep_has hm pmt) (sep_has hm pmt) h2 gw pf1) ?_)|(refine a_cvq rfl (fnOk_of Tryz.func166 rfl rfl) rfl (fun m hm=>lost_q (z:=z.ck x.H y.c i k0) (H:=x.H) (sd:=sd) (w:=p.val) (sep_has hm pmt) (sep_has hm pmt) h2 gw pf2) ?_))|fail)
     ·refine j_i () trivial (hl:=⟨?_,by(repeat(first|exact trivial|refine⟨rfl,?_⟩))⟩)
      exact congrArg SV.v (ret_t (.inl ⟨keyw_no (by assumption),by assumption⟩))
     ·refine j_i () trivial (hl:=⟨?_,by(repeat(first|exact trivial|refine⟨rfl,?_⟩))⟩)
      refine congrArg SV.v (congrArg Value.bool ?_)
      refine decide_eq_decide.2 ⟨fun h=>.inr ⟨valw_no (by assumption),h⟩,fun h=>?_⟩
      rcases h with h|h
      ·exact absurd h.2 (by assumption)
      ·exact h.2
     ·refine j_i () trivial (hl:=⟨?_,by(repeat(first|exact trivial|refine⟨rfl,?_⟩))⟩)
      refine congrArg SV.v (ret_f fun h=>?_)
      rcases h with h|h
      ·exact absurd h.2 (by assumption)
      ·exact h.1 (valw_yes (by assumption))
     ·refine j_i () trivial (hl:=⟨?_,by(repeat(first|exact trivial|refine⟨rfl,?_⟩))⟩)
      refine congrArg SV.v (congrArg Value.bool ?_)
      refine decide_eq_decide.2 ⟨fun h=>.inr ⟨valw_no (by assumption),h⟩,fun h=>?_⟩
      rcases h with h|h
      ·exact absurd (keyw_yes (by assumption)) h.1
      ·exact h.2
     ·refine j_i () trivial (hl:=⟨?_,by(repeat(first|exact trivial|refine⟨rfl,?_⟩))⟩)
      refine congrArg SV.v (ret_f fun h=>?_)
      rcases h with h|h
      ·exact absurd (keyw_yes (by assumption)) h.1
      ·exact h.1 (valw_yes (by assumption))
    have hwk:=gw.walked
    have hkl:(kept x.H y.c (y.c.pairs.take k0)).length≤200:=by
     have:=kept_len x.H y.c (y.c.pairs.take k0)
     have h3:(y.c.pairs.take k0).length≤y.c.pairs.length:=by rw[List.length_take];omega
     omega
    by_cases hG:GoneP x.H y.c p
    ·have eck:=ck_gone (z:=z) (i:=i) gp hG
     have et:nGone x.H y.c (y.c.pairs.take (k0+1))=nGone x.H y.c (y.c.pairs.take k0)+1:=by rw[take_s gp,nGone_app,nGone_one,if_pos hG]
     have ek:kept x.H y.c (y.c.pairs.take (k0+1))=kept x.H y.c (y.c.pairs.take k0):=by rw[take_s gp,kept_app,kept_one,if_pos hG,List.append_nil]
     rw[decide_eq_true hG]
     have hwk1:Heap.walkedI (HX.H {z.ck x.H y.c i k0 with used:=(z.ck x.H y.c i k0).used-1})=x.H.walkedI:=hwk
     have hcs3:((z.ck x.H y.c i k0).hdr.s_used ((z.ck x.H y.c i k0).hdr.used-1)).sub=(z.ck x.H y.c i k0).hdr.sub:=rfl
     have e2:((g1 x.H i+nGone x.H y.c (y.c.pairs.take (k0+1)):Nat):Int)=((g1 x.H i+nGone x.H y.c (y.c.pairs.take k0):Nat):Int)+1:=by rw[et];omega
     repeat' (first|refine xx ?_|(refine xy ?_ ?_<;>intro hb<;>try(exfalso;omega))|(refine k_L ?_;(refine k_c ?_;refine a_cq rfl (fun m hm=>qt_e (walked_q (x:={z.ck x.H y.c i k0 with used:=(z.ck x.H y.c i k0).used-1}) (sep_has hm pmt)) (by rw[hwk1])) ?_))|fail)
     ·refine r_ct (((kept x.H y.c (y.c.pairs.take k0),kd),k0+1):(List Pair×D)×Nat) ⟨rfl,ek.symm⟩ (hl:=?_) (he:=?_)
      ·dsimp only
       rw[e2]
       repeat(first|exact trivial|refine⟨rfl,?_⟩)
      ·dsimp only
       rw[eck,if_pos ⟨Eq.symm (by assumption),by assumption⟩]
       exact Pm.ent pmt
     ·refine r_ct (((kept x.H y.c (y.c.pairs.take k0),kd),k0+1):(List Pair×D)×Nat) ⟨rfl,ek.symm⟩ (hl:=?_) (he:=?_)
      ·dsimp only
       rw[e2]
       repeat(first|exact trivial|refine⟨rfl,?_⟩)
      ·dsimp only
       rw[eck,if_neg (fun h=>absurd h.2 (by assumption))]
       exact Pm.ent pmt
     ·refine r_ct (((kept x.H y.c (y.c.pairs.take k0),kd),k0+1):(List Pair×D)×Nat) ⟨rfl,ek.symm⟩ (hl:=?_) (he:=?_)
      ·dsimp only
       rw[e2]
       repeat(first|exact trivial|refine⟨rfl,?_⟩)
      ·dsimp only
       rw[eck,if_neg (fun h=>absurd h.1.symm (by assumption))]
       exact Pm.ent pmt
    ·have eck:=ck_keep (z:=z) (i:=i) gp hG
     have et:nGone x.H y.c (y.c.pairs.take (k0+1))=nGone x.H y.c (y.c.pairs.take k0):=by rw[take_s gp,nGone_app,nGone_one,if_neg hG];rfl
     have ek:kept x.H y.c (y.c.pairs.take (k0+1))=kept x.H y.c (y.c.pairs.take k0)++[p]:=by rw[take_s gp,kept_app,kept_one,if_neg hG]
     rw[decide_eq_false hG]
     repeat' (first|refine xx ?_|fail)
     refine g_ap p pv_len rfl rfl rfl (by omega) (fun kd'=>?_)
     repeat' (first|refine xx ?_|fail)
     refine r_nx (((kept x.H y.c (y.c.pairs.take k0)++[p],kd'),k0+1):(List Pair×D)×Nat) ⟨rfl,by rw[ek]⟩ (hl:=?_) (he:=?_)
     ·dsimp only
      rw[et]
      repeat(first|exact trivial|refine⟨rfl,?_⟩)
     ·dsimp only
      rw[eck]
      exact Pm.ent pmt
   ·obtain⟨⟨ps,kd⟩,k0⟩:=q
    obtain⟨hk0,hps⟩:=hv
    simp only at hk0 hps
    subst hps;subst hk0
    dsimp only
    repeat' (first|refine xx ?_|fail)
    have gyk:(z.ck x.H y.c i y.c.pairs.length).xs[i]?=some y:=gy
    rw[List.take_length]
    refine a_cs (kept x.H y.c y.c.pairs) gyk rfl rfl ?_
    repeat' (first|refine xx ?_|(refine xy ?_ ?_<;>intro hb<;>try(exfalso;omega))|fail)
    generalize hZ:({z.ck x.H y.c i y.c.pairs.length with xs:=z.xs.set i ⟨{y.c with pairs:=kept x.H y.c y.c.pairs},kd.a,kd.cap⟩}:HX)=Z
    have hd:(z.ck x.H y.c i y.c.pairs.length).hdr=Z.hdr:=by rw[←hZ];simp[HX.hdr,HX.ck]
    have zH:Z.H=x.H.cutC z.H i:=by
     rw[←hZ]
     unfold Heap.cutC
     rw[gk]
     have m1:y.c.pairs.take (min y.c.pairs.length z.sub.toNat)=y.c.pairs.take z.sub.toNat:=by
      rcases Nat.le_total y.c.pairs.length z.sub.toNat with e|e
      ·rw[Nat.min_eq_left e,List.take_length,List.take_of_length_le e]
      ·rw[Nat.min_eq_right e]
     unfold HX.H HX.ck
     simp only[List.map_set,List.take_length,m1]
    refine r_nx ((Z,g1 x.H (i+1)):HX×Nat) ⟨by rw[zH,ep],rfl⟩ (hl:=?_) (he:=?_)
    ·dsimp only
     rw[eg]
     repeat(first|exact trivial|refine⟨rfl,?_⟩)
    ·rw[hd]
     dsimp only
     have e1:Z.rd=z.rd∧Z.regs=z.regs∧Z.cd=z.cd∧Z.gd=z.gd∧Z.gray=z.gray∧Z.xs=z.xs.set i ⟨{y.c with pairs:=kept x.H y.c y.c.pairs},kd.a,kd.cap⟩:=by rw[←hZ];exact⟨rfl,rfl,rfl,rfl,rfl,rfl⟩
     show Ent _ ([hdA a Z.hdr,slA 3 wv Z.rd Z.regs,clA Z.cd Z.xs,slA 1 iv Z.gd Z.gray]++stR x.H a b1 b2 sd)
     rw[e1.1,e1.2.1,e1.2.2.1,e1.2.2.2.1,e1.2.2.2.2.1,e1.2.2.2.2.2]
     exact Pm.ent pmt
  ·rw[decide_eq_false hh]at hgi
   rw[if_neg hh]at eg ep
   have hgi':(heldL x.H)[(i:Int).toNat]?=some false:=hgi
   repeat' (first|refine xx ?_|fail)
   exact r_ct ((z,g1 x.H i):HX×Nat) ⟨ep.symm,eg.symm⟩
 obtain⟨z0,g0⟩:=q
 obtain⟨hz0,hg0⟩:=hv
 simp only at hz0 hg0
 subst hg0
 dsimp only
 obtain⟨lk0,_,lla0,lu0,_⟩:=p1_ok x.H x.H.cells.length (Nat.le_refl _)
 rw[hl]at lk0 lla0 lu0
 rw[←hz0]at lk0
 have hz0n:z0.hdr.nc=z0.xs.length:=rfl
 have hz0l:=z0.len
 have hz0x:z0.xs.length=x.xs.length:=by rw[←hz0l,lk0.len,hl]
 repeat' (first|refine xx ?_|fail)
 refine g_range x.xs.length (fun q:HX×Nat=>[(1,.v (ptr b1)),(2,.v (.int .i64 (g1 x.H x.xs.length))),(3,.v (.int .i64 q.2)),(4,.v (ptr b2))]) (fun q=>hp a q.1++stR x.H a b1 b2 sd) (fun i q=>q.1.H=p2 x.H i∧q.2=d2 x.H i) ((z0,0):HX×Nat) ⟨by show z0.H=p1 x.H x.H.cells.length;rw[hz0,hl],rfl⟩ (fun i q hi hv=>?_) (fun q hv=>?_) (hl:=by
  have:z0.hdr.nc=x.xs.length:=by omega
  rw[this]
  repeat(first|exact trivial|refine⟨rfl,?_⟩))
 ·obtain⟨z,d⟩:=q
  obtain⟨hz,hd⟩:=hv
  simp only at hz hd
  subst hd
  dsimp only
  obtain⟨lk,lc,_,_,_⟩:=p2_ok x.H i (by omega)
  rw[←hz]at lk lc
  have hzl:=z.len
  have hzn:z.hdr.nc=z.xs.length:=rfl
  have hzx:z.xs.length=x.xs.length:=by rw[←hzl,lk.len,hl]
  obtain⟨y,gy,gyc⟩:=HX.at (x:=z) (i:=i) (by omega)
  have gk:=HX.gc gy
  have hd2:=d2_le x.H i
  have hlast:y.c.last=(x.H.getC i).last:=by rw[←gk,lc i (Nat.le_refl _),hl];exact lla0 i
  have hst:y.c.state=(x.H.getC i).state:=by rw[←gk];exact(lk.cell i).1
  have gxs:=getL_some (cs:=x.H.cells) (j:=i) (by omega) (by omega)
  rw[Int.toNat_natCast,←getC_L]at gxs
  have hls:y.c.last=1→y.c.state=1:=fun e=>by
   rcases Decidable.em (y.c.state=1)with e2|e2
   ·exact e2
   ·have:=(h2.bare gxs (by rw[←hst];exact e2)).2.2.1
    omega
  have hgi:=heldL_get (H:=x.H) (j:=i) (by omega)
  have ed:d2 x.H (i+1)=if ¬Held x.H i∧y.c.last=1 then d2 x.H i+1 else d2 x.H i:=by show(if _ then _ else _)=_;rw[hlast]
  have ep:p2 x.H (i+1)=if ¬Held x.H i∧y.c.last=1 then{z.H with cells:=z.H.cells.set i {z.H.getC i with last:=2}}else z.H:=by show(if _ then _ else _)=_;rw[hlast,hz]
  have gy':z.xs[(i:Int).toNat]?=some y:=gy
  by_cases hh:Held x.H i
  ·rw[decide_eq_true hh]at hgi
   have hgi':(heldL x.H)[(i:Int).toNat]?=some true:=hgi
   rw[if_neg (fun h=>h.1 hh)]at ed ep
   repeat' (first|refine xx ?_|(refine xy ?_ ?_<;>intro hb<;>try(exfalso;omega))|fail)
   all_goals exact r_nx ((z,d2 x.H i):HX×Nat) ⟨ep.symm,ed.symm⟩
  ·rw[decide_eq_false hh]at hgi
   have hgi':(heldL x.H)[(i:Int).toNat]?=some false:=hgi
   by_cases hl1:y.c.last=1
   ·have hs1:=hls hl1
    rw[if_pos ⟨hh,hl1⟩]at ed ep
    repeat' (first|refine xx ?_|(refine xy ?_ ?_<;>intro hb<;>try(exfalso;omega))|fail)
    generalize hZ:({z with xs:=z.xs.set i (y.s_last 2)}:HX)=Z
    have hdr:z.hdr=Z.hdr:=by rw[←hZ];simp[HX.hdr]
    have zH:Z.H=p2 x.H (i+1):=by
     rw[←hZ,ep,gk]
     unfold HX.H
     simp only[List.map_set]
     rfl
    refine r_nx ((Z,d2 x.H (i+1)):HX×Nat) ⟨zH,rfl⟩ (hl:=?_) (he:=?_)
    ·dsimp only
     rw[ed]
     repeat(first|exact trivial|refine⟨rfl,?_⟩)
    ·rw[hdr]
     dsimp only
     have e1:Z.rd=z.rd∧Z.regs=z.regs∧Z.cd=z.cd∧Z.gd=z.gd∧Z.gray=z.gray∧Z.xs=z.xs.set i (y.s_last 2):=by rw[←hZ];exact⟨rfl,rfl,rfl,rfl,rfl,rfl⟩
     show Ent _ ([hdA a Z.hdr,slA 3 wv Z.rd Z.regs,clA Z.cd Z.xs,slA 1 iv Z.gd Z.gray]++stR x.H a b1 b2 sd)
     rw[e1.1,e1.2.1,e1.2.2.1,e1.2.2.2.1,e1.2.2.2.2.1,e1.2.2.2.2.2]
     exact Pm.ent pmt
   ·rw[if_neg (fun h=>hl1 h.2)]at ed ep
    repeat' (first|refine xx ?_|(refine xy ?_ ?_<;>intro hb<;>try(exfalso;omega))|fail)
    all_goals exact r_nx ((z,d2 x.H i):HX×Nat) ⟨ep.symm,ed.symm⟩
 ·obtain⟨z,d⟩:=q
  obtain⟨hz,hd⟩:=hv
  simp only at hz hd
  subst hd
  dsimp only
  repeat' (first|refine xx ?_|fail)
  refine fa_r (As':=hp a z) (fun _ _=>rfl) (Pm.ent pmt) ⟨z,?_,rfl,?_⟩
  ·rw[hl]
  ·unfold Heap.settleH
   rw[hz,hl]
theorem erase_snoc{α:Type}{l:List α}{p:α}{k:Nat}:(l++[p]).eraseIdx k=if l.length=k then l else l.eraseIdx k++(if k<l.length then[p]else[p]):=by
 by_cases h:k<l.length
 ·rw[if_neg (by omega),if_pos h,List.eraseIdx_append_of_lt_length h]
 ·rw[List.eraseIdx_append_of_length_le (by omega)]
  by_cases e:l.length=k
  ·rw[if_pos e,e,Nat.sub_self];simp
  ·rw[if_neg e,if_neg h,List.eraseIdx_of_length_le (l:=l) (by omega),List.eraseIdx_of_length_le (by simp;omega)]
theorem l4cut_a{a:Nat}{z:HX}{i k:Nat}{y:CS}(gy:z.xs[i]?=some y)(hk:k<y.c.pairs.length)(hpl:y.c.pairs.length≤200)(hu: -1000000000≤z.used∧z.used≤1000000000)(hs: -1000000000≤z.sub∧z.sub≤1000000000)(hn:z.xs.length≤8000):
 FnA Tryz.prog 99 [ptr a,.int .i64 i,.int .i64 k] (hp a z) (fun v As=>∃u:HX,As=hp a u∧u.rd=z.rd∧u.H={z.H with cells:=z.H.cells.set i {y.c with pairs:=y.c.pairs.eraseIdx k},used:=z.used-1,sub:=if(k:Int)<z.sub∧z.H.walkedI=i then z.sub-1 else z.sub}):=by
 refine fnA_of (fun h=>fn99 (by simp) h) ?_
 have hnc:z.hdr.nc=z.xs.length:=rfl
 have hlt:=(List.getElem?_eq_some_iff.1 gy).1
 have gy':z.xs[(i:Int).toNat]?=some y:=gy
 have hud:z.hdr.used=z.used:=rfl
 have hsd:z.hdr.sub=z.sub:=rfl
 repeat' (first|refine xx ?_|fail)
 refine VA.ent (ent_new (f:=pv) (size:=6)) ?_
 refine g_range y.c.pairs.length (fun q:List Pair×D=>[(0,.v (ptr a)),(1,.v (.int .i64 i)),(2,.v (.int .i64 k)),(6,.v (.slice q.2.a q.1.length q.2.cap)),(16,.v (.slice y.d.a y.c.pairs.length y.d.cap))]) (fun q=>slA 6 pv q.2 q.1::hp a z) (fun j q=>q.1=(y.c.pairs.take j).eraseIdx k) (([],⟨none,0⟩):List Pair×D) rfl (fun j q hj hv=>?_) (fun q hv=>?_)
 ·obtain⟨ps,d⟩:=q
  simp only at hv
  subst hv
  obtain⟨p,gp⟩:∃p,y.c.pairs[j]?=some p:=⟨_,List.getElem?_eq_getElem hj⟩
  have hjl:(y.c.pairs.take j).length=j:=by rw[List.length_take];omega
  have hel:((y.c.pairs.take j).eraseIdx k).length≤200:=by
   have:((y.c.pairs.take j).eraseIdx k).length≤(y.c.pairs.take j).length:=(List.eraseIdx_sublist _ _).length_le
   omega
  have es:(y.c.pairs.take (j+1)).eraseIdx k=if j=k then y.c.pairs.take j else(y.c.pairs.take j).eraseIdx k++[p]:=by
   rw[List.take_add_one,gp]
   show(y.c.pairs.take j++[p]).eraseIdx k=_
   rw[erase_snoc,hjl]
   by_cases e:j=k
   ·rw[if_pos e,if_pos e]
   ·rw[if_neg e,if_neg e];split<;>rfl
  dsimp only
  by_cases ejk:j=k
  ·have e1:(y.c.pairs.take j).eraseIdx k=y.c.pairs.take j:=List.eraseIdx_of_length_le (by omega)
   rw[if_pos ejk,←e1]at es
   repeat' (first|refine xx ?_|(refine xy ?_ ?_<;>intro hb<;>try(exfalso;omega))|fail)
   exact r_nx (((y.c.pairs.take j).eraseIdx k,d):List Pair×D) es.symm
  ·rw[if_neg ejk]at es
   repeat' (first|refine xx ?_|(refine xy ?_ ?_<;>intro hb<;>try(exfalso;omega))|fail)
   refine g_ap p pv_len rfl rfl rfl (by omega) (fun d'=>?_)
   repeat' (first|refine xx ?_|fail)
   exact r_nx (((y.c.pairs.take j).eraseIdx k++[p],d'):List Pair×D) es.symm
 ·obtain⟨ps,d⟩:=q
  simp only at hv
  rw[List.take_length]at hv
  subst hv
  dsimp only
  generalize hZ:({z with xs:=z.xs.set i ⟨{y.c with pairs:=y.c.pairs.eraseIdx k},d.a,d.cap⟩,used:=z.used-1}:HX)=Z
  have hd:z.hdr.s_used (z.hdr.used-1)=Z.hdr:=by rw[←hZ];simp[HX.hdr,Hdr.s_used]
  have e1:Z.rd=z.rd∧Z.regs=z.regs∧Z.cd=z.cd∧Z.gd=z.gd∧Z.gray=z.gray∧Z.xs=z.xs.set i ⟨{y.c with pairs:=y.c.pairs.eraseIdx k},d.a,d.cap⟩:=by rw[←hZ];exact⟨rfl,rfl,rfl,rfl,rfl,rfl⟩
  have zs:Z.sub=z.sub:=by rw[←hZ]
  have zH:Z.H={z.H with cells:=z.H.cells.set i {y.c with pairs:=y.c.pairs.eraseIdx k},used:=z.used-1}:=by
   rw[←hZ]
   unfold HX.H
   simp only[List.map_set]
  have zw:Z.H.walkedI=z.H.walkedI:=by
   rw[zH]
   unfold Heap.walkedI
   simp only[List.length_set]
  have pm:∀h:Hdr,Ent (clA z.cd (z.xs.set (i:Int).toNat ⟨{y.c with pairs:=y.c.pairs.eraseIdx k},d.a,d.cap⟩)::hdA a h::slA 3 wv z.rd z.regs::slA 1 iv z.gd z.gray::[]) [hdA a h,slA 3 wv Z.rd Z.regs,clA Z.cd Z.xs,slA 1 iv Z.gd Z.gray]:=fun h=>by
   rw[e1.1,e1.2.1,e1.2.2.1,e1.2.2.2.1,e1.2.2.2.2.1,e1.2.2.2.2.2]
   exact Pm.ent pmt
  repeat' (first|refine xx ?_|(refine xy ?_ ?_<;>intro hb<;>try(exfalso;omega))|(refine k_L ?_;(refine a_cs (y.c.pairs.eraseIdx k) gy' rfl rfl ?_))|fail)
  ·have hks:(k:Int)<z.sub:=by have:(z.hdr.s_used (z.hdr.used-1)).sub=z.sub:=rfl;omega
   rw[hd]
   refine LA.ent (Bs:=hp a Z) (pm _) ?_
   have zsd:Z.hdr.sub=z.sub:=zs
   repeat' (first|refine xx ?_|(refine xy ?_ ?_<;>intro hb<;>try(exfalso;omega))|(refine k_L ?_;(refine k_c ?_;refine a_cq rfl (fun m hm=>qt_e (l4scanned_q (x:=Z) (sep_has hm pmt)) (by rw[zw])) ?_))|fail)
   ·refine fa_n (fun _ _=>rfl) (Pm.ent (fin {Z with sub:=Z.sub-1})) ⟨_,rfl,e1.1,?_⟩
    rw[if_pos ⟨hks,by assumption⟩]
    show({Z.H with sub:=Z.sub-1}:Heap)=_
    rw[zH,zs]
   ·refine fa_n (fun _ _=>rfl) (Pm.ent (fin Z)) ⟨_,rfl,e1.1,?_⟩
    rw[if_neg (fun h=>absurd h.2 (by assumption)),zH]
    rfl
  ·have hks:¬(k:Int)<z.sub:=by have:(z.hdr.s_used (z.hdr.used-1)).sub=z.sub:=rfl;omega
   rw[hd]
   refine fa_n (fun _ _=>rfl) (pm _) ⟨Z,rfl,e1.1,?_⟩
   rw[if_neg (fun h=>hks h.1),zH]
   rfl
theorem wand1(x:BitVec IntKind.i64.bits):0≤IntKind.i64.wrap ((x&&&BitVec.ofInt IntKind.i64.bits 1).toNat:Int):=by
 have h:(x&&&BitVec.ofInt IntKind.i64.bits 1).toNat≤1:=by
  rw[BitVec.toNat_and];exact Nat.and_le_right
 generalize(x&&&BitVec.ofInt IntKind.i64.bits 1).toNat=n at*
 rcases(by omega:n=0∨n=1)with rfl|rfl<;>decide
theorem wand2(x:BitVec IntKind.i64.bits):0≤IntKind.i64.wrap ((x&&&BitVec.ofInt IntKind.i64.bits 2).toNat:Int):=by
 have h:(x&&&BitVec.ofInt IntKind.i64.bits 2).toNat≤2:=by
  rw[BitVec.toNat_and];exact Nat.and_le_right
 generalize(x&&&BitVec.ofInt IntKind.i64.bits 2).toNat=n at*
 rcases(by omega:n=0∨n=1∨n=2)with rfl|rfl|rfl<;>decide
theorem keyw_pos{c:Cell}:IntKind.i64.wrap (BitVec.ofInt IntKind.i64.bits c.weak&&&BitVec.ofInt IntKind.i64.bits 1).toNat>0↔¬KeyW c:=by
 have:=wand1 (BitVec.ofInt IntKind.i64.bits c.weak)
 unfold KeyW
 omega
theorem valw_pos{c:Cell}:IntKind.i64.wrap (BitVec.ofInt IntKind.i64.bits c.weak&&&BitVec.ofInt IntKind.i64.bits 2).toNat>0↔¬ValW c:=by
 have:=wand2 (BitVec.ofInt IntKind.i64.bits c.weak)
 unfold ValW
 omega
noncomputable def Heap.dk(K H:Heap)(c:Cell)(i k:Nat):Heap:={K with cells:=K.cells.set i {c with pairs:=c.pairs.take k++kept H c (c.pairs.drop k)},used:=K.used-nGone H c (c.pairs.drop k),sub:=if H.walkedI=i then K.sub-nGone H c ((c.pairs.take K.sub.toNat).drop k)else K.sub}
theorem set_same{l:List Cell}{i:Nat}{c:Cell}(h:l[i]?=some c):l.set i c=l:=by
 apply List.ext_getElem?
 intro j
 rw[List.getElem?_set]
 split
 ·rename_i e;subst e
  rw[if_pos (List.getElem?_eq_some_iff.1 h).1,h]
 ·rfl
theorem dk_top{K H:Heap}{c:Cell}{i:Nat}(h:K.cells[i]?=some c):K.dk H c i c.pairs.length=K:=by
 unfold Heap.dk
 have e0:nGone H c []=0:=rfl
 have e1:(c.pairs.take K.sub.toNat).drop c.pairs.length=[]:=List.drop_eq_nil_of_le (by rw[List.length_take];omega)
 rw[List.take_length,List.drop_length,kept_nil,List.append_nil,e1,e0]
 have e2:({c with pairs:=c.pairs}:Cell)=c:=rfl
 rw[e2,set_same h]
 simp
theorem dk_bot{K H:Heap}{c:Cell}{i:Nat}(h:K.getC i=c):K.dk H c i 0=H.cutC K i:=by
 unfold Heap.dk Heap.cutC
 rw[h,List.take_zero,List.drop_zero,List.nil_append,List.drop_zero]
theorem drop_s{c:Cell}{k:Nat}{p:Pair}(hp:c.pairs[k]?=some p):c.pairs.drop k=[p]++c.pairs.drop (k+1):=by
 have h:=List.getElem?_eq_some_iff.1 hp
 rw[List.drop_eq_getElem_cons h.1,h.2];rfl
theorem dk_keep{K H:Heap}{c:Cell}{i k:Nat}{p:Pair}(hp:c.pairs[k]?=some p)(hg:¬GoneP H c p):K.dk H c i k=K.dk H c i (k+1):=by
 unfold Heap.dk
 have e1:c.pairs.take k++kept H c (c.pairs.drop k)=c.pairs.take (k+1)++kept H c (c.pairs.drop (k+1)):=by
  rw[drop_s hp,kept_app,kept_one,if_neg hg,take_s hp,List.append_assoc]
 have e2:nGone H c (c.pairs.drop k)=nGone H c (c.pairs.drop (k+1)):=by rw[drop_s hp,nGone_app,nGone_one,if_neg hg];omega
 have e3:nGone H c ((c.pairs.take K.sub.toNat).drop k)=nGone H c ((c.pairs.take K.sub.toNat).drop (k+1)):=by
  by_cases h:k<K.sub.toNat
  ·have hp':(c.pairs.take K.sub.toNat)[k]?=some p:=by rw[List.getElem?_take,if_pos h];exact hp
   have h':=List.getElem?_eq_some_iff.1 hp'
   rw[List.drop_eq_getElem_cons h'.1,h'.2]
   have:p::(c.pairs.take K.sub.toNat).drop (k+1)=[p]++(c.pairs.take K.sub.toNat).drop (k+1):=rfl
   rw[this,nGone_app,nGone_one,if_neg hg];omega
  ·rw[List.drop_eq_nil_of_le (by rw[List.length_take];omega),List.drop_eq_nil_of_le (by rw[List.length_take];omega)]
 rw[e1,e2,e3]
theorem dk_gone{K H:Heap}{c:Cell}{i k:Nat}{p:Pair}(hi:i<K.cells.length)(hp:c.pairs[k]?=some p)(hg:GoneP H c p):
 K.dk H c i k={K.dk H c i (k+1)with cells:=(K.dk H c i (k+1)).cells.set i {c with pairs:=(c.pairs.take (k+1)++kept H c (c.pairs.drop (k+1))).eraseIdx k},used:=(K.dk H c i (k+1)).used-1,sub:=if(k:Int)<(K.dk H c i (k+1)).sub∧H.walkedI=i then(K.dk H c i (k+1)).sub-1 else(K.dk H c i (k+1)).sub}:=by
 have hkl:=(List.getElem?_eq_some_iff.1 hp).1
 have e1:c.pairs.take k++kept H c (c.pairs.drop k)=(c.pairs.take (k+1)++kept H c (c.pairs.drop (k+1))).eraseIdx k:=by
  rw[drop_s hp,kept_app,kept_one,if_pos hg,take_s hp,List.append_assoc,List.eraseIdx_append_of_length_le (by rw[List.length_take];omega)]
  have:k-(c.pairs.take k).length=0:=by rw[List.length_take];omega
  rw[this];rfl
 have e2:nGone H c (c.pairs.drop k)=nGone H c (c.pairs.drop (k+1))+1:=by rw[drop_s hp,nGone_app,nGone_one,if_pos hg];omega
 have e3:(if H.walkedI=i then K.sub-(nGone H c ((c.pairs.take K.sub.toNat).drop k):Nat)else K.sub)=if(k:Int)<(if H.walkedI=i then K.sub-(nGone H c ((c.pairs.take K.sub.toNat).drop (k+1)):Nat)else K.sub)∧H.walkedI=i then(if H.walkedI=i then K.sub-(nGone H c ((c.pairs.take K.sub.toNat).drop (k+1)):Nat)else K.sub)-1 else(if H.walkedI=i then K.sub-(nGone H c ((c.pairs.take K.sub.toNat).drop (k+1)):Nat)else K.sub):=by
  by_cases hw:H.walkedI=i
  ·simp only[hw,if_true,and_true]
   have hn:=nGone_le H c ((c.pairs.take K.sub.toNat).drop (k+1))
   rw[List.length_drop,List.length_take]at hn
   by_cases h:(k:Int)<K.sub
   ·have hp':(c.pairs.take K.sub.toNat)[k]?=some p:=by rw[List.getElem?_take,if_pos (by omega)];exact hp
    have h':=List.getElem?_eq_some_iff.1 hp'
    have e4:nGone H c ((c.pairs.take K.sub.toNat).drop k)=nGone H c ((c.pairs.take K.sub.toNat).drop (k+1))+1:=by
     rw[List.drop_eq_getElem_cons h'.1,h'.2]
     have:p::(c.pairs.take K.sub.toNat).drop (k+1)=[p]++(c.pairs.take K.sub.toNat).drop (k+1):=rfl
     rw[this,nGone_app,nGone_one,if_pos hg];omega
    rw[if_pos (by omega),e4];omega
   ·have e5:∀j,k≤j→(c.pairs.take K.sub.toNat).drop j=[]:=fun j hj=>List.drop_eq_nil_of_le (by rw[List.length_take];omega)
    rw[e5 k (Nat.le_refl _),e5 (k+1) (by omega)]
    have e0:nGone H c []=0:=rfl
    rw[e0,if_neg (by omega)]
  ·simp only[hw,if_false,and_false]
 unfold Heap.dk
 simp only[List.set_set]
 rw[e1,e3]
 have e6:K.used-((nGone H c (c.pairs.drop k):Nat):Int)=K.used-(nGone H c (c.pairs.drop (k+1)):Nat)-1:=by rw[e2];omega
 rw[e6]
theorem dk_like{K H:Heap}{c:Cell}{i k:Nat}(h:Like H K)(hi:K.cells[i]?=some c):Like H (K.dk H c i k):=by
 have hlt:=(List.getElem?_eq_some_iff.1 hi).1
 have hg:=getC_nat hi
 exact h.trans (like_set (c:={c with pairs:=c.pairs.take k++kept H c (c.pairs.drop k)}) hlt (by rw[hg];exact⟨rfl,rfl,rfl,rfl,rfl,rfl⟩) rfl rfl rfl rfl rfl rfl rfl rfl rfl rfl rfl)
theorem l4settle_a{a:Nat}{x:HX}(h:Sound x.H):FnA Tryz.prog 59 [ptr a] (hp a x) (fun v As=>∃z:HX,v=.tuple #[.int .i64 (g1 x.H x.H.cells.length:Nat),.int .i64 (d2 x.H x.H.cells.length:Nat)]∧As=hp a z∧z.H=x.H.settleH):=by
 obtain⟨q1,q2,q3⟩:=sound_gray h
 have hl:=x.len
 have hnc:x.hdr.nc=x.xs.length:=rfl
 have h2:=h.r2
 have hrm:=h.r1.room
 have hsb:=h.r1.sub
 have hus:=h.r3
 have hun:=pairsN_units h2
 have hpn:=pairsN_nonneg x.H.cells
 unfold R3 at hus
 have hln:=heldL_len x.H
 refine fnA_of (fun h=>fn59 (by simp) h) ?_
 repeat' (first|refine xx ?_|(refine k_L ?_;(refine g_c rfl (fna_ro (q:=fun v E=>∃sd:D,v=.slice sd.a (heldL x.H).length sd.cap∧E=[slA 1 bv sd (heldL x.H)]) (Bs:=hp a x) (fun m hm=>(l2holds_a (has_star hm) h.r1 h.r2 h.r4).mono (fun v As ⟨sd,e1,e2⟩=>⟨_,⟨sd,e1,rfl⟩,e2⟩))) (fun v As' hq=>?_);obtain⟨_,⟨sd,rfl,rfl⟩,rfl⟩:=hq))|fail)
 refine g_range x.xs.length (fun q:HX×Nat=>[(0,.v (ptr a)),(4,.v (.slice sd.a (heldL x.H).length sd.cap)),(5,.v (.int .i64 q.2))]) (fun q=>hp a q.1++[slA 1 bv sd (heldL x.H)]) (fun i q=>q.1.H=p1 x.H i∧q.2=g1 x.H i) ((x,0):HX×Nat) ⟨rfl,rfl⟩ (fun i q hi hv=>?_) (fun q hv=>?_)
 ·obtain⟨z,g⟩:=q
  obtain⟨hz,hg⟩:=hv
  simp only at hz hg
  subst hg
  dsimp only
  obtain⟨lk,lc,lla,lu,ls1,ls2⟩:=p1_ok x.H i (by omega)
  rw[←hz]at lk lc lla lu ls1 ls2
  have hzl:=z.len
  have hzn:z.hdr.nc=z.xs.length:=rfl
  have hzx:z.xs.length=x.xs.length:=by rw[←hzl,lk.len,hl]
  obtain⟨y,gy,gyc⟩:=HX.at (x:=z) (i:=i) (by omega)
  have gk:=HX.gc gy
  have gx:x.H.getC i=y.c:=by rw[←lc i (Nat.le_refl _)];exact gk
  have gxs:=getL_some (cs:=x.H.cells) (j:=i) (by omega) (by omega)
  rw[Int.toNat_natCast,←getC_L,gx]at gxs
  have hpl:=h2.pl (List.mem_of_getElem? gxs)
  have hg1:=g1_le h2 i
  have hzu:z.used=x.H.used-g1 x.H i:=lu
  have hzs1:x.H.sub-g1 x.H i≤z.sub:=ls1
  have hzs2:z.sub≤x.H.sub:=ls2
  have hgi:=heldL_get (H:=x.H) (j:=i) (by omega)
  have eg:g1 x.H (i+1)=if Held x.H i then g1 x.H i+nGone x.H y.c y.c.pairs else g1 x.H i:=by show(if _ then _ else _)=_;rw[gx]
  have ep:p1 x.H (i+1)=if Held x.H i then x.H.cutC z.H i else z.H:=by show(if _ then _ else _)=_;rw[hz]
  have gy':z.xs[(i:Int).toNat]?=some y:=gy
  by_cases hh:Held x.H i
  ·rw[decide_eq_true hh]at hgi
   rw[if_pos hh]at eg ep
   have hgi':(heldL x.H)[(i:Int).toNat]?=some true:=hgi
   repeat' (first|refine xx ?_|fail)
   refine v_mono (Q:=seqA (Jx (fun u:HX=>[(5,.v (.int .i64 (g1 x.H i+nGone x.H y.c y.c.pairs:Nat))),(0,.v (ptr a)),(4,.v (.slice sd.a (heldL x.H).length sd.cap)),(6,.v (.int .i64 i)),(19,.v (.int .i64 i)),(18,.v (.int .i64 x.xs.length))]) (fun u=>hp a u++[slA 1 bv sd (heldL x.H)]) (fun u=>u.H=x.H.cutC z.H i)) (fun _ _ _=>False)) ?_ ?_
   ·refine v_blk ?_
    refine v_loop (fun q:Nat×HX=>[(7,.v (.int .i64 ((q.1:Int)-1))),(5,.v (.int .i64 (g1 x.H i+nGone x.H y.c (y.c.pairs.drop q.1):Nat))),(0,.v (ptr a)),(4,.v (.slice sd.a (heldL x.H).length sd.cap)),(6,.v (.int .i64 i)),(19,.v (.int .i64 i)),(18,.v (.int .i64 x.xs.length))]) (fun q=>hp a q.2++[slA 1 bv sd (heldL x.H)]) (fun n q=>n=q.1∧q.1≤y.c.pairs.length∧q.2.H=z.H.dk x.H y.c i q.1) ⟨_,(y.c.pairs.length,z),?_,Pm.ent pmt,rfl,Nat.le_refl _,?_⟩ ?_
    ·simp only[List.drop_length]
     repeat(first|exact trivial|refine⟨rfl,?_⟩)
    ·exact(dk_top gyc).symm
    rintro n ⟨k,u⟩ ⟨hnk,hk,hu⟩
    simp only at hnk hk hu
    dsimp only
    have lu':=dk_like (H:=x.H) (i:=i) (k:=k) lk gyc
    rw[←hu]at lu'
    have hul:=u.len
    have hun:u.hdr.nc=u.xs.length:=rfl
    have hux:u.xs.length=x.xs.length:=by rw[←hul,lu'.len,hl]
    have hlt:i<z.H.cells.length:=by omega
    obtain⟨w,gw,gwc⟩:=HX.at (x:=u) (i:=i) (by omega)
    have ewc:w.c={y.c with pairs:=y.c.pairs.take k++kept x.H y.c (y.c.pairs.drop k)}:=by
     have h1:u.H.cells[i]?=some w.c:=gwc
     rw[hu]at h1
     have h3:(z.H.dk x.H y.c i k).cells[i]?=some {y.c with pairs:=y.c.pairs.take k++kept x.H y.c (y.c.pairs.drop k)}:=by
      show(z.H.cells.set i _)[i]?=_
      rw[List.getElem?_set,if_pos rfl,if_pos hlt]
     rw[h3]at h1
     exact(Option.some.inj h1).symm
    have gw':u.xs[(i:Int).toNat]?=some w:=gw
    have huu:u.used=z.used-nGone x.H y.c (y.c.pairs.drop k):=by
     have:u.H.used=z.H.used-nGone x.H y.c (y.c.pairs.drop k):=by rw[hu];rfl
     exact this
    have hus2:u.sub=if x.H.walkedI=i then z.sub-nGone x.H y.c ((y.c.pairs.take z.sub.toNat).drop k)else z.sub:=by
     have:u.H.sub=if x.H.walkedI=i then z.H.sub-nGone x.H y.c ((y.c.pairs.take z.H.sub.toNat).drop k)else z.H.sub:=by rw[hu];rfl
     exact this
    have hn1:nGone x.H y.c (y.c.pairs.drop k)≤200:=by
     have:=nGone_le x.H y.c (y.c.pairs.drop k)
     rw[List.length_drop]at this;omega
    have hn2:nGone x.H y.c ((y.c.pairs.take z.sub.toNat).drop k)≤200:=by
     have:=nGone_le x.H y.c ((y.c.pairs.take z.sub.toNat).drop k)
     rw[List.length_drop,List.length_take]at this;omega
    have hus3:z.sub-200≤u.sub∧u.sub≤z.sub:=by rw[hus2];split<;>omega
    cases k with
    |zero=>
     repeat' (first|refine xx ?_|fail)
     refine j_i u (by rw[hu,dk_bot gk]) (hl:=?_)
     simp only[List.drop_zero]
     repeat(first|exact trivial|refine⟨rfl,?_⟩)
    |succ k=>
     obtain⟨p,gp⟩:∃p,y.c.pairs[k]?=some p:=⟨_,List.getElem?_eq_getElem (by omega)⟩
     have gpw:w.c.pairs[k]?=some p:=by
      rw[ewc]
      show(y.c.pairs.take (k+1)++_)[k]?=_
      rw[List.getElem?_append_left (by rw[List.length_take];omega),List.getElem?_take,if_pos (by omega)];exact gp
     have hwl:=(List.getElem?_eq_some_iff.1 gpw).1
     have ekk:((k+1:Nat):Int)-1=k:=by omega
     have gpw':w.c.pairs[(k:Int).toNat]?=some p:=gpw
     have ewk:w.c.weak=y.c.weak:=by rw[ewc]
     have hwl2:w.c.pairs.length≤200:=by
      rw[ewc]
      show(y.c.pairs.take (k+1)++kept x.H y.c (y.c.pairs.drop (k+1))).length≤200
      have:=kept_len x.H y.c (y.c.pairs.drop (k+1))
      rw[List.length_append,List.length_take]
      rw[List.length_drop]at this
      omega
     obtain⟨pf1,pf2,_⟩:=h.r4.pairs i y.c gxs k p gp
     rw[ekk]
     refine v_seq ?_
     refine v_seq ?_
     repeat' (first
      |(refine k_L ?_;refine a_p rfl ?_)
      |refine a_n ?_
      |(refine k_V ?_;first|refine v_reg ?_|refine v_skip ?_|refine v_ct rfl ?_)
      |refine s_n ?_)
     refine v_seq ?_
     repeat' (first
      |refine a_n ?_
      |(refine k_V ?_;refine v_bs ?_))
     refine v_seq ?_
     repeat' (first
      |(refine k_L ?_;first|refine a_p rfl ?_|(refine k_l ?_;refine g_l rfl ?_)|(refine k_i ?_;refine g_i rfl rfl ?_)|(refine k_ls ?_;refine g_ls rfl ?_)|(refine k_st ?_;refine g_sw rfl rfl rfl rfl (Nat.le_of_ble_eq_true rfl) ?_)|(refine k_al ?_;refine a_al ?_))
      |refine a_n ?_
      |(refine k_V ?_;refine v_reg ?_)
      |refine s_n ?_
      |refine sk_zero ?_
      |refine sk_succ ?_
      |refine wk_nil ?_
      |refine wk_cons ?_)
     refine v_seq ?_
     repeat' (first
      |(refine k_L ?_;first|refine a_p rfl ?_|(refine k_l ?_;refine g_l rfl ?_)|(refine k_i ?_;refine g_i rfl rfl ?_))
      |refine a_n ?_
      |(refine k_V ?_;refine v_reg ?_)
      |refine s_n ?_)
     refine g_cut (fun _:Unit=>[(81,.v (.bool (decide (GoneP x.H y.c p)))),(7,.v (.int .i64 k)),(5,.v (.int .i64 (g1 x.H i+nGone x.H y.c (y.c.pairs.drop (k+1)):Nat))),(0,.v (ptr a)),(4,.v (.slice sd.a (heldL x.H).length sd.cap)),(6,.v (.int .i64 i)),(19,.v (.int .i64 i)),(18,.v (.int .i64 x.xs.length))]) (fun _=>hp a u++[slA 1 bv sd (heldL x.H)]) (fun _=>True) ?_ (fun _ _=>?_)
     ·have gwk:IntKind.i64.wrap (BitVec.ofInt IntKind.i64.bits w.c.weak&&&BitVec.ofInt IntKind.i64.bits 1).toNat>0↔¬KeyW y.c:=by rw[ewk];exact keyw_pos
      have gwv:IntKind.i64.wrap (BitVec.ofInt IntKind.i64.bits w.c.weak&&&BitVec.ofInt IntKind.i64.bits 2).toNat>0↔¬ValW y.c:=by rw[ewk];exact valw_pos
      repeat' (first|refine xx ?_|(refine xy ?_ ?_<;>intro hb<;>try(exfalso;omega))|(refine k_L ?_;first|(refine a_cq rfl (fun m hm=>l4lost_q (z:=u) (H:=x.H) (sd:=sd) (w:=p.key) (sep_has hm pmt) (sep_has hm pmt) h2 lu' pf1) ?_)|(refine a_cq rfl (fun m hm=>l4lost_q (z:=u) (H:=x.H) (sd:=sd) (w:=p.val) (sep_has hm pmt) (sep_has hm pmt) h2 lu' pf2) ?_))|fail)
      ·refine j_i () trivial (hl:=⟨?_,by(repeat(first|exact trivial|refine⟨rfl,?_⟩))⟩)
       exact congrArg SV.v (ret_t (.inl ⟨gwk.1 (by assumption),by assumption⟩))
      ·refine j_i () trivial (hl:=⟨?_,by(repeat(first|exact trivial|refine⟨rfl,?_⟩))⟩)
       refine congrArg SV.v (congrArg Value.bool ?_)
       refine decide_eq_decide.2 ⟨fun h=>.inr ⟨gwv.1 (by assumption),h⟩,fun h=>?_⟩
       rcases h with h|h
       ·exact absurd h.2 (by assumption)
       ·exact h.2
      ·refine j_i () trivial (hl:=⟨?_,by(repeat(first|exact trivial|refine⟨rfl,?_⟩))⟩)
       refine congrArg SV.v (ret_f fun h=>?_)
       rcases h with h|h
       ·exact absurd h.2 (by assumption)
       ·exact absurd (gwv.2 h.1) (by assumption)
      ·refine j_i () trivial (hl:=⟨?_,by(repeat(first|exact trivial|refine⟨rfl,?_⟩))⟩)
       refine congrArg SV.v (congrArg Value.bool ?_)
       refine decide_eq_decide.2 ⟨fun h=>.inr ⟨gwv.1 (by assumption),h⟩,fun h=>?_⟩
       rcases h with h|h
       ·exact absurd (gwk.2 h.1) (by assumption)
       ·exact h.2
      ·refine j_i () trivial (hl:=⟨?_,by(repeat(first|exact trivial|refine⟨rfl,?_⟩))⟩)
       refine congrArg SV.v (ret_f fun h=>?_)
       rcases h with h|h
       ·exact absurd (gwk.2 h.1) (by assumption)
       ·exact absurd (gwv.2 h.1) (by assumption)
     by_cases hG:GoneP x.H y.c p
     ·have e2:nGone x.H y.c (y.c.pairs.drop k)=nGone x.H y.c (y.c.pairs.drop (k+1))+1:=by rw[drop_s gp,nGone_app,nGone_one,if_pos hG];omega
      have e3:((g1 x.H i+nGone x.H y.c (y.c.pairs.drop k):Nat):Int)=((g1 x.H i+nGone x.H y.c (y.c.pairs.drop (k+1)):Nat):Int)+1:=by rw[e2];omega
      have edk:=dk_gone (K:=z.H) (H:=x.H) (c:=y.c) (i:=i) hlt gp hG
      rw[decide_eq_true hG]
      repeat' (first|refine xx ?_|(refine k_L ?_;(refine g_c rfl (l4cut_a (z:=u) (i:=i) (k:=k) gw hwl hwl2 (by omega) (by omega) (by omega)) (fun v As' hq=>?_);obtain⟨u2,rfl,_,hu2⟩:=hq))|fail)
      refine⟨k,(k,u2),by omega,?_,Pm.ent pmt,rfl,by show k≤y.c.pairs.length;omega,?_⟩
      ·rw[e3]
       (repeat(first|exact trivial|refine⟨rfl,?_⟩))
      ·show u2.H=z.H.dk x.H y.c i k
       rw[hu2,edk,←hu,lu'.walked,ewc]
       rfl
     ·have e2:nGone x.H y.c (y.c.pairs.drop k)=nGone x.H y.c (y.c.pairs.drop (k+1)):=by rw[drop_s gp,nGone_app,nGone_one,if_neg hG];omega
      have edk:=dk_keep (K:=z.H) (H:=x.H) (c:=y.c) (i:=i) gp hG
      rw[decide_eq_false hG]
      repeat' (first|refine xx ?_|fail)
      refine⟨k,(k,u),by omega,?_,Pm.ent pmt,rfl,by show k≤y.c.pairs.length;omega,?_⟩
      ·rw[e2]
       (repeat(first|exact trivial|refine⟨rfl,?_⟩))
      ·show u.H=z.H.dk x.H y.c i k
       rw[hu,edk]
   rintro t S' As' hq
   cases t with
   |ret=>exact hq.elim
   |ext i=>exact hq.elim
   |nrm=>
   obtain⟨u,hl',he',hu⟩:=hq
   refine r_nx ((u,g1 x.H (i+1)):HX×Nat) ⟨by rw[ep];exact hu,rfl⟩ (hl:=?_) (he:=he')
   rw[eg]
   obtain⟨k1,k2,k3,k4,k5,k6,_⟩:=hl'
   exact⟨k5,k6,k2,k3,k1,trivial⟩
  ·rw[decide_eq_false hh]at hgi
   rw[if_neg hh]at eg ep
   have hgi':(heldL x.H)[(i:Int).toNat]?=some false:=hgi
   repeat' (first|refine xx ?_|fail)
   exact r_ct ((z,g1 x.H i):HX×Nat) ⟨ep.symm,eg.symm⟩
 obtain⟨z0,g0⟩:=q
 obtain⟨hz0,hg0⟩:=hv
 simp only at hz0 hg0
 subst hg0
 dsimp only
 obtain⟨lk0,_,lla0,lu0,_⟩:=p1_ok x.H x.H.cells.length (Nat.le_refl _)
 rw[hl]at lk0 lla0 lu0
 rw[←hz0]at lk0
 have hz0n:z0.hdr.nc=z0.xs.length:=rfl
 have hz0l:=z0.len
 have hz0x:z0.xs.length=x.xs.length:=by rw[←hz0l,lk0.len,hl]
 repeat' (first|refine xx ?_|fail)
 refine g_range x.xs.length (fun q:HX×Nat=>[(0,.v (ptr a)),(4,.v (.slice sd.a (heldL x.H).length sd.cap)),(5,.v (.int .i64 (g1 x.H x.xs.length))),(10,.v (.int .i64 q.2))]) (fun q=>hp a q.1++[slA 1 bv sd (heldL x.H)]) (fun i q=>q.1.H=p2 x.H i∧q.2=d2 x.H i) ((z0,0):HX×Nat) ⟨by show z0.H=p1 x.H x.H.cells.length;rw[hz0,hl],rfl⟩ (fun i q hi hv=>?_) (fun q hv=>?_) (hl:=by
  have:z0.hdr.nc=x.xs.length:=by omega
  rw[this]
  repeat(first|exact trivial|refine⟨rfl,?_⟩))
 ·obtain⟨z,d⟩:=q
  obtain⟨hz,hd⟩:=hv
  simp only at hz hd
  subst hd
  dsimp only
  obtain⟨lk,lc,_,_,_⟩:=p2_ok x.H i (by omega)
  rw[←hz]at lk lc
  have hzl:=z.len
  have hzn:z.hdr.nc=z.xs.length:=rfl
  have hzx:z.xs.length=x.xs.length:=by rw[←hzl,lk.len,hl]
  obtain⟨y,gy,gyc⟩:=HX.at (x:=z) (i:=i) (by omega)
  have gk:=HX.gc gy
  have hd2:=d2_le x.H i
  have hlast:y.c.last=(x.H.getC i).last:=by rw[←gk,lc i (Nat.le_refl _),hl];exact lla0 i
  have hgi:=heldL_get (H:=x.H) (j:=i) (by omega)
  have ed:d2 x.H (i+1)=if ¬Held x.H i∧y.c.last=1 then d2 x.H i+1 else d2 x.H i:=by show(if _ then _ else _)=_;rw[hlast]
  have ep:p2 x.H (i+1)=if ¬Held x.H i∧y.c.last=1 then{z.H with cells:=z.H.cells.set i {z.H.getC i with last:=2}}else z.H:=by show(if _ then _ else _)=_;rw[hlast,hz]
  have gy':z.xs[(i:Int).toNat]?=some y:=gy
  by_cases hh:Held x.H i
  ·rw[decide_eq_true hh]at hgi
   have hgi':(heldL x.H)[(i:Int).toNat]?=some true:=hgi
   rw[if_neg (fun h=>h.1 hh)]at ed ep
   repeat' (first|refine xx ?_|(refine xy ?_ ?_<;>intro hb<;>try(exfalso;omega))|fail)
   all_goals exact r_nx ((z,d2 x.H i):HX×Nat) ⟨ep.symm,ed.symm⟩
  ·rw[decide_eq_false hh]at hgi
   have hgi':(heldL x.H)[(i:Int).toNat]?=some false:=hgi
   by_cases hl1:y.c.last=1
   ·rw[if_pos ⟨hh,hl1⟩]at ed ep
    repeat' (first|refine xx ?_|(refine xy ?_ ?_<;>intro hb<;>try(exfalso;omega))|fail)
    generalize hZ:({z with xs:=z.xs.set i (y.s_last 2)}:HX)=Z
    have hdr:z.hdr=Z.hdr:=by rw[←hZ];simp[HX.hdr]
    have zH:Z.H=p2 x.H (i+1):=by
     rw[←hZ,ep,gk]
     unfold HX.H
     simp only[List.map_set]
     rfl
    refine r_nx ((Z,d2 x.H (i+1)):HX×Nat) ⟨zH,rfl⟩ (hl:=?_) (he:=?_)
    ·dsimp only
     rw[ed]
     repeat(first|exact trivial|refine⟨rfl,?_⟩)
    ·rw[hdr]
     dsimp only
     have e1:Z.rd=z.rd∧Z.regs=z.regs∧Z.cd=z.cd∧Z.gd=z.gd∧Z.gray=z.gray∧Z.xs=z.xs.set i (y.s_last 2):=by rw[←hZ];exact⟨rfl,rfl,rfl,rfl,rfl,rfl⟩
     show Ent _ ([hdA a Z.hdr,slA 3 wv Z.rd Z.regs,clA Z.cd Z.xs,slA 1 iv Z.gd Z.gray]++[slA 1 bv sd (heldL x.H)])
     rw[e1.1,e1.2.1,e1.2.2.1,e1.2.2.2.1,e1.2.2.2.2.1,e1.2.2.2.2.2]
     exact Pm.ent pmt
   ·rw[if_neg (fun h=>hl1 h.2)]at ed ep
    repeat' (first|refine xx ?_|(refine xy ?_ ?_<;>intro hb<;>try(exfalso;omega))|fail)
    all_goals exact r_nx ((z,d2 x.H i):HX×Nat) ⟨ep.symm,ed.symm⟩
 ·obtain⟨z,d⟩:=q
  obtain⟨hz,hd⟩:=hv
  simp only at hz hd
  subst hd
  dsimp only
  repeat' (first|refine xx ?_|fail)
  refine fa_r (As':=hp a z) (fun _ _=>rfl) (Pm.ent pmt) ⟨z,?_,rfl,?_⟩
  ·rw[hl]
  ·unfold Heap.settleH
   rw[hz,hl]
theorem mkG_ow2:∀(k:Int) (ys:List CS),(mkG gCS wCS k ys).flatMap (fun y=>own y.s)=ys.flatMap fun y=>own y.s
 |k,[]=>rfl
 |k,y::r=>by
  simp only[mkG,List.flatMap_cons,gCS_s]
  rw[mkG_ow2]
theorem gH_fp(k:Int)(x:HS):(gH k x).fp=x.fp:=by
 unfold HS.fp gH fpC
 simp only
 rw[mkG_ow2]
theorem markHeap_a{x:HX}{k:Int}(h0:0≤k)(hb:endH k x.H≤4611686018427387904):FnA Tryz.prog 21 [x.v,.int .i64 k] x.body (fun v As=>v=.int .i64 (endH k x.H)∧∃y:HX,y.hs=gH k x.hs∧As=y.body):=
 ⟨fun m hm=>(markHeap_f h0 hb (body_whv hm)).mono fun v M' ⟨h1,h2,h3⟩=>by
   have hw:=body_whv hm
   obtain⟨y,hy,hs⟩:=body_w (y:=gH k x.hs) (M:=M') ⟨h3,by rw[gH_fp];exact hw.nd⟩
   exact⟨y.body,_,resL_le _ _,hs,h1,y,hy,rfl⟩⟩
theorem heldHeap_a{x y:HX}{k:Int}{m:Mem}(h0:0≤k)(hb:endH k x.H≤4611686018427387904)(hy:y.hs=gH k x.hs)(h:Has m y.body):Qt Tryz.prog 34 [x.v,.int .i64 k] m (.int .i64 (endH k x.H)):=by
 have h1:=h.b
 rw[hy]at h1
 exact heldHeap_q' (x:=x.hs) h0 hb rfl h1
def OkK(K:Heap):Prop:=Sound K∨K=Heap.nil
theorem OkK.fin{K:Heap}(h:OkK K):1≤endH 1 K∧endH 1 K≤1000000:=by
 have hn:=pairsN_nonneg K.cells
 rcases h with h|rfl
 ·have h1:=h.r1.regs
  have h2:=h.r1.cells
  have h3:=h.r1.room
  have h4:=h.r1.gray
  have h5:=pairsN_units h.r2
  have h6:=h.r3
  unfold R3 at h6
  rw[endH_eq];omega
 ·rw[endH_eq];simp[Heap.nil,pairsN]
end Go.Proofs.YtpleoapljeffiaaGreatDoor.E
