/- A part of the proof. Conditions: none. -/
import Derived.Test.YtcjmodomfilagaaGreatKI16
set_option linter.unusedVariables false
set_option linter.unusedSimpArgs false
set_option maxHeartbeats 8000000
set_option maxRecDepth 100000
namespace Go.Proofs.YtcjmodomfilagaaGreat.E
open Go
open Classical
def Calm(H:Heap)(s0 s:List Bool×List Int)(n:Nat):Prop:=s=s0→∀(k j:Nat) c,k<n→s0.2[k]?=some (j:Int)→H.cells[j]?=some c→RuleC H s0.1 c
noncomputable def keyS(H:Heap)(c:Cell)(p:Pair)(q:List Bool×List Int):List Bool×List Int:=if KeyW c then mkW H q p.key else q
noncomputable def valS(H:Heap)(c:Cell)(p:Pair)(q:List Bool×List Int):List Bool×List Int:=if ValW c∧Hit H q.1 p.key then mkW H q p.val else q
theorem keyS_ok{H:Heap}{c:Cell}{p:Pair}{q:List Bool×List Int}(h:Mk H (Held H) q)(hk:KeyW c→∀j,H.tgt p.key=some j→j<H.cells.length∧Held H j):Mk H (Held H) (keyS H c p q)∧Grow q (keyS H c p q)∧Same q (keyS H c p q)∧(KeyW c→Hit H (keyS H c p q).1 p.key):=by
 unfold keyS
 by_cases hK:KeyW c
 ·rw[if_pos hK]
  obtain⟨a,b,d⟩:=mkW_ok h (hk hK)
  exact⟨a,b,mkW_same _ _ _,fun _=>d⟩
 ·rw[if_neg hK]
  exact⟨h,Grow.refl _,.inl rfl,fun h=>absurd h hK⟩
theorem valS_ok{H:Heap}{c:Cell}{p:Pair}{q:List Bool×List Int}(h:Mk H (Held H) q)(hk:ValW c→Hit H q.1 p.key→∀j,H.tgt p.val=some j→j<H.cells.length∧Held H j):Mk H (Held H) (valS H c p q)∧Grow q (valS H c p q)∧Same q (valS H c p q)∧(ValW c→Hit H q.1 p.key→Hit H (valS H c p q).1 p.val):=by
 unfold valS
 by_cases hK:ValW c∧Hit H q.1 p.key
 ·rw[if_pos hK]
  obtain⟨a,b,d⟩:=mkW_ok h (hk hK.1 hK.2)
  exact⟨a,b,mkW_same _ _ _,fun _ _=>d⟩
 ·rw[if_neg hK]
  exact⟨h,Grow.refl _,.inl rfl,fun h h'=>absurd ⟨h,h'⟩ hK⟩
theorem holds_next{H:Heap}{s q:List Bool×List Int}{c:Cell}{k:Nat}{p:Pair}(gp:c.pairs[k]?=some p)(hv1:Mk H (Held H) q)(hv2:Grow s q)(hv3:Same s q)
 (hv4:q=s→∀p,p∈c.pairs.take k→(KeyW c→Hit H s.1 p.key)∧(ValW c→Hit H s.1 p.key→Hit H s.1 p.val))
 (hk:KeyW c→∀j,H.tgt p.key=some j→j<H.cells.length∧Held H j) (hw:ValW c→Hit H (keyS H c p q).1 p.key→∀j,H.tgt p.val=some j→j<H.cells.length∧Held H j):
 Mk H (Held H) (valS H c p (keyS H c p q))∧Grow s (valS H c p (keyS H c p q))∧Same s (valS H c p (keyS H c p q))∧
 (valS H c p (keyS H c p q)=s→∀p',p'∈c.pairs.take (k+1)→(KeyW c→Hit H s.1 p'.key)∧(ValW c→Hit H s.1 p'.key→Hit H s.1 p'.val)):=by
 obtain⟨a1,a2,a3,a4⟩:=keyS_ok hv1 hk
 obtain⟨b1,b2,b3,b4⟩:=valS_ok a1 hw
 refine⟨b1,(hv2.trans a2).trans b2,(hv3.trans a3 a2.len hv2.len).trans b3 b2.len (hv2.trans a2).len,fun e p' hp'=>?_⟩
 have l1:=hv2.len
 have l2:=a2.len
 have l3:=b2.len
 have el:(valS H c p (keyS H c p q)).2.length=s.2.length:=by rw[e]
 have e1:q=s:=by
  rcases hv3 with h|h
  ·exact h
  ·omega
 have e2:keyS H c p q=s:=by
  rcases a3 with h|h
  ·rw[h];exact e1
  ·omega
 rw[List.take_add_one,List.mem_append]at hp'
 rcases hp' with hp'|hp'
 ·exact hv4 e1 p' hp'
 ·rw[gp]at hp'
  simp only[Option.toList_some,List.mem_singleton]at hp'
  subst hp'
  rw[e2]at a4 b4
  have e3:valS H c p' s=s:=by rw[←e2];rw[e];exact e2.symm
  rw[e3]at b4
  exact⟨a4,b4⟩
theorem l2holds_a{m:Mem}{a:Nat}{x:HX}(h:Has m (hp a x))(h1:R1 x.H)(h2:R2 x.H)(h4:R4 x.H):FnA Tryz.prog 77 [ptr a] [ro m] (fun v As=>∃(sd:D),v=.slice sd.a (heldL x.H).length sd.cap∧As=[slA 1 bv sd (heldL x.H),ro m]):=by
 have hb0:=h.lens
 have hl:=x.len
 have hc1:=h1.cells
 have hc2:=h1.room
 refine fnA_of (fun h=>fn77 (by simp) h) ?_
 repeat' (first
  |(refine k_L ?_;first|refine a_p rfl ?_|(refine k_l ?_;refine g_l rfl ?_)|(refine a_mk (f:=bv) (n:=(x.xs.length:Int)) (k:=(x.xs.length:Int)) false (fun _=>rfl) rfl rfl rfl (by omega) (by omega) (fun sd hsd=>?_)))
  |refine a_n ?_
  |(refine k_V ?_;first|refine v_seq ?_|refine v_reg ?_)
  |refine s_n ?_)
 have hm0:=mk0 x.H (Held x.H)
 rw[hl]at hm0
 refine VA.ent (ent_new (f:=iv) (size:=1)) ?_
 have hreg:∀w,w∈x.H.regs→∀j,x.H.tgt w=some j→j<x.H.cells.length∧Held x.H j:=fun w hw j hj=>⟨(tgt_lt h2 (h4.regs w hw).1 hj).1,.reg hw hj⟩
 refine g_range x.regs.length (fun q:PQ=>[(0,.v (ptr a)),(3,.v (.slice sd.a x.xs.length sd.cap)),(4,.v (.slice q.2.a q.1.2.length q.2.cap)),(24,.v (.slice x.rd.a x.regs.length x.rd.cap))]) (fun q=>sqA sd q.2 q.1++[ro m])
  (fun i q=>MkA x.H (Held x.H) q.1∧∀w,w∈x.H.regs.take i→Hit x.H q.1.1 w) (((List.replicate x.xs.length false,[]),⟨none,0⟩):PQ) ⟨hm0,by simp⟩ (fun i q hi hv=>?_) (fun q hv=>?_) (hent:=Pm.ent pmt)
 ·obtain⟨w,gw⟩:∃w,x.regs[i]?=some w:=⟨_,List.getElem?_eq_getElem hi⟩
  have hwm:w∈x.H.regs:=List.mem_of_getElem? gw
  obtain⟨n1,n2,n3⟩:=hv.1.next (hreg w hwm)
  repeat' (first
   |(refine k_L ?_;first|refine a_p rfl ?_|(refine k_i ?_;refine g_i rfl rfl ?_)|(refine k_ls ?_;refine g_ls rfl ?_)|(refine k_st ?_;refine g_sw rfl rfl rfl rfl (Nat.le_of_ble_eq_true rfl) ?_)|(refine k_al ?_;refine a_al ?_))
   |refine a_n ?_
   |(refine k_V ?_;first|refine v_seq ?_|refine v_reg ?_)
   |refine sk_zero ?_
   |refine sk_succ ?_
   |refine wk_nil ?_
   |refine wk_cons ?_)
  refine g_c rfl (l2mark_n (sd:=sd) (kd:=q.2) (w:=w) (s:=q.1) (S:=Held x.H) h h1 h2 (h4.regs w hwm).1 hv.1.ok (hv.1.ok.len.trans hl)) (fun v As' hq=>?_)
  obtain⟨kd',rfl,rfl⟩:=hq
  repeat' (first
   |(refine k_L ?_;refine a_p rfl ?_)
   |refine a_n ?_)
  refine r_nx ((mkW x.H q.1 w,kd'):PQ) ⟨n1,fun w' hw'=>?_⟩ (he:=Pm.ent pmt)
  rw[List.take_add_one,List.mem_append]at hw'
  rcases hw' with hw'|hw'
  ·exact(hv.2 w' hw').grow n2
  ·rw[show x.H.regs[i]?=some w from gw]at hw'
   simp only[Option.toList_some,List.mem_singleton]at hw'
   subst hw';exact n3
 ·obtain⟨hv1,hv2⟩:=hv
  rw[List.take_of_length_le (by exact Nat.le_refl _)]at hv2
  repeat' (first
   |(refine k_L ?_;first|refine a_p rfl ?_|(refine k_l ?_;refine g_l rfl ?_))
   |refine a_n ?_
   |(refine k_V ?_;first|refine v_seq ?_|refine v_reg ?_)
   |refine s_n ?_)
  refine g_range x.xs.length (fun q:PQ=>[(0,.v (ptr a)),(3,.v (.slice sd.a x.xs.length sd.cap)),(4,.v (.slice q.2.a q.1.2.length q.2.cap)),(39,.v (.slice x.cd.a x.xs.length x.cd.cap))]) (fun q=>sqA sd q.2 q.1++[ro m])
   (fun i q=>MkA x.H (Held x.H) q.1∧(∀w,w∈x.H.regs→Hit x.H q.1.1 w)∧∀(j:Nat) c,j<i→x.H.cells[j]?=some c→c.last=2→q.1.1[j]?=some true) q ⟨hv1,hv2,fun j c hj=>by omega⟩ (fun i q hi hv=>?_) (fun q hv=>?_) (hent:=Pm.ent pmt)
  ·obtain⟨hv1,hv2,hv3⟩:=hv
   obtain⟨y,gy,gc⟩:=HX.at hi
   by_cases hr:y.c.last=2
   ·have hst:=last2 h2 gc hr
    obtain⟨n1,n2,n3⟩:=hv1.next (w:=⟨2,0,i⟩) (fun j hj=>by
     rw[tgt_root gc hst]at hj
     cases hj
     exact⟨by omega,.due gc hr⟩)
    repeat' (first
     |(refine k_L ?_;first|refine a_p rfl ?_|(refine k_i ?_;refine g_i rfl rfl ?_)|(refine k_ls ?_;refine g_ls rfl ?_)|(refine k_st ?_;refine g_sw rfl rfl rfl rfl (Nat.le_of_ble_eq_true rfl) ?_)|(refine k_al ?_;refine a_al ?_))
     |refine a_n ?_
     |(refine k_V ?_;first|refine v_seq ?_|refine v_reg ?_|(refine v_cd rfl (fun hb=>?_) (fun hb=>?_)<;>try(exfalso;omega)))
     |refine sk_zero ?_
     |refine sk_succ ?_
     |refine wk_nil ?_
     |refine wk_cons ?_)
    ·refine g_c rfl (l2mark_n (sd:=sd) (kd:=q.2) (w:=⟨2,0,i⟩) (s:=q.1) (S:=Held x.H) h h1 h2 (formed_at (by omega)) hv1.ok (hv1.ok.len.trans hl)) (fun v As' hq=>?_)
     obtain⟨kd',rfl,rfl⟩:=hq
     repeat' (first
      |(refine k_L ?_;refine a_p rfl ?_)
      |refine a_n ?_)
     refine r_nx ((mkW x.H q.1 ⟨2,0,i⟩,kd'):PQ) ⟨n1,fun w' hw'=>(hv2 w' hw').grow n2,fun j c hj hc hl2=>?_⟩ (he:=Pm.ent pmt)
     by_cases e:j=i
     ·subst e
      exact n3 j (tgt_root gc hst)
     ·exact n2.mono j (hv3 j c (by omega) hc hl2)
   ·repeat' (first
     |(refine k_L ?_;first|refine a_p rfl ?_|(refine k_i ?_;refine g_i rfl rfl ?_)|(refine k_ls ?_;refine g_ls rfl ?_)|(refine k_st ?_;refine g_sw rfl rfl rfl rfl (Nat.le_of_ble_eq_true rfl) ?_)|(refine k_al ?_;refine a_al ?_))
     |refine a_n ?_
     |(refine k_V ?_;first|refine v_seq ?_|refine v_reg ?_|refine v_skip ?_|(refine v_cd rfl (fun hb=>?_) (fun hb=>?_)<;>try(exfalso;omega)))
     |refine sk_zero ?_
     |refine sk_succ ?_
     |refine wk_nil ?_
     |refine wk_cons ?_)
    refine r_nx q ⟨hv1,hv2,fun j c hj hc hl2=>?_⟩ (he:=Pm.ent pmt)
    by_cases e:j=i
    ·subst e;rw[gc]at hc;cases hc;exact absurd hl2 hr
    ·exact hv3 j c (by omega) hc hl2
  ·obtain⟨hv1,hv2,hv3⟩:=hv
   have hfull:HFull x.H q.1.1:=⟨hv2,fun i c hc hr=>hv3 i c (by have:=(List.getElem?_eq_some_iff.1 hc).1;omega) hc hr⟩
   have hall:=hv1.all
   have hok:=hv1.ok
   clear hv1 hv2 hv3
   repeat' (first
    |(refine k_L ?_;refine a_p rfl ?_)
    |refine a_n ?_
    |(refine k_V ?_;first|refine v_seq ?_|refine v_reg ?_))
   refine v_blk ?_
   refine v_loop (fun q:PQ×Int=>[(0,.v (ptr a)),(3,.v (.slice sd.a x.xs.length sd.cap)),(4,.v (.slice q.1.2.a q.1.1.2.length q.1.2.cap)),(9,.v (.int .i64 q.2))]) (fun q=>sqA sd q.1.2 q.1.1++[ro m])
    (fun k q=>k=2*(x.xs.length-q.1.1.2.length)+(if q.2=q.1.1.2.length then 0 else 1)∧MkA x.H (Held x.H) q.1.1∧HFull x.H q.1.1.1∧(q.2=q.1.1.2.length→∀(i:Nat) c,q.1.1.1[i]?=some true→x.H.cells[i]?=some c→RuleC x.H q.1.1.1 c))
    ⟨_,(q,-1),⟨rfl,rfl,rfl,rfl,trivial⟩,Pm.ent pmt,rfl,⟨hok,hall⟩,hfull,fun e=>by dsimp only at e;omega⟩ ?_
   clear hok hfull hall
   rintro k ⟨⟨s0,kd0⟩,bf⟩ ⟨rfl,hma,hfull,hend⟩
   dsimp only at hma hfull hend⊢
   have hcnt0:=hma.ok.cnt
   by_cases hbf:bf=(s0.2.length:Int)
   ·have e:=held_end hma.ok hfull (hend hbf)
    repeat' (first
     |(refine k_L ?_;refine a_p rfl ?_)
     |refine a_n ?_
     |(refine k_V ?_;first|refine v_seq ?_|refine v_reg ?_|refine v_ret ?_|refine v_exit ?_|(refine v_cn rfl (fun hb=>?_) (fun hb=>?_)<;>try(exfalso;omega))))
    exact fa_r (As':=[slA 1 bv sd (heldL x.H),ro m]) (fun _ _=>rfl) (by rw[←e];exact Pm.ent pmt) ⟨sd,by rw[heldL_len,hl],rfl⟩
   ·repeat' (first
     |(refine k_L ?_;refine a_p rfl ?_)
     |refine a_n ?_
     |(refine k_V ?_;first|refine v_seq ?_|refine v_reg ?_|refine v_bs ?_|refine v_skip ?_|(refine v_cn rfl (fun hb=>?_) (fun hb=>?_)<;>try(exfalso;omega)))
     |refine s_n ?_)
    refine v_blk ?_
    refine v_loop (fun q:PQ×Nat=>[(0,.v (ptr a)),(3,.v (.slice sd.a x.xs.length sd.cap)),(4,.v (.slice q.1.2.a q.1.1.2.length q.1.2.cap)),(9,.v (.int .i64 s0.2.length)),(10,.v (.int .i64 q.2))]) (fun q=>sqA sd q.1.2 q.1.1++[ro m])
     (fun k q=>k=2*q.1.1.1.count false+q.1.1.2.length-q.2∧q.2≤q.1.1.2.length∧Mk x.H (Held x.H) q.1.1∧Grow s0 q.1.1∧Same s0 q.1.1∧Calm x.H s0 q.1.1 q.2)
     ⟨_,((s0,kd0),0),⟨rfl,rfl,rfl,rfl,rfl,trivial⟩,Pm.ent pmt,rfl,Nat.zero_le _,hma.ok,Grow.refl _,.inl rfl,fun _ k j c hk=>by dsimp only at hk;omega⟩ ?_
    rintro k ⟨⟨s,kd⟩,hd⟩ ⟨rfl,hle,hok,hgr,hsm,hcalm⟩
    dsimp only at hle hok hgr hsm hcalm⊢
    have hcnt:=hok.cnt
    have hgl:=hgr.len
    by_cases hlt:hd<s.2.length
    ·obtain⟨g,gg⟩:∃g,s.2[hd]?=some g:=⟨_,List.getElem?_eq_getElem hlt⟩
     obtain⟨j,rfl,hj⟩:=hok.stk g (List.mem_of_getElem? gg)
     have hjl:j<x.xs.length:=by
      have:=(List.getElem?_eq_some_iff.1 hj).1
      have:=hok.len
      omega
     obtain⟨y,gy,gc⟩:=HX.at hjl
     have hpl:=h2.pl (List.mem_of_getElem? gc)
     have hpr:=h4.pairs j y.c gc
     have hHj:=hok.snd j hj
     repeat' (first
      |(refine k_L ?_;first|refine a_p rfl ?_|(refine k_l ?_;refine g_l rfl ?_)|(refine k_i ?_;refine g_i rfl rfl ?_)|(refine k_ls ?_;refine g_ls rfl ?_)|(refine k_st ?_;refine g_sw rfl rfl rfl rfl (Nat.le_of_ble_eq_true rfl) ?_)|(refine k_al ?_;refine a_al ?_))
      |refine a_n ?_
      |(refine k_V ?_;first|refine v_seq ?_|refine v_reg ?_|refine v_dreg ?_|refine v_bs ?_|refine v_skip ?_|(refine v_cd rfl (fun hb=>?_) (fun hb=>?_)<;>try(exfalso;omega)))
      |refine s_n ?_
      |refine sk_zero ?_
      |refine sk_succ ?_
      |refine wk_nil ?_
      |refine wk_cons ?_)
     refine g_range y.c.pairs.length (fun q:PQ=>[(0,.v (ptr a)),(3,.v (.slice sd.a x.xs.length sd.cap)),(4,.v (.slice q.2.a q.1.2.length q.2.cap)),(9,.v (.int .i64 s0.2.length)),(10,.v (.int .i64 hd)),(11,.box (csw y)),(79,.v (.slice y.d.a y.c.pairs.length y.d.cap))]) (fun q=>sqA sd q.2 q.1++[ro m])
      (fun k q=>Mk x.H (Held x.H) q.1∧Grow s q.1∧Same s q.1∧(q.1=s→∀p,p∈y.c.pairs.take k→(KeyW y.c→Hit x.H s.1 p.key)∧(ValW y.c→Hit x.H s.1 p.key→Hit x.H s.1 p.val))) ((s,kd):PQ) ⟨hok,Grow.refl _,.inl rfl,fun _=>by simp⟩ (fun k q hk hv=>?_) (fun q hv=>?_) (hent:=Pm.ent pmt)
     ·obtain⟨p,gp⟩:∃p,y.c.pairs[k]?=some p:=⟨_,List.getElem?_eq_getElem hk⟩
      have hpm:=List.mem_of_getElem? gp
      obtain⟨hv1,hv2,hv3,hv4⟩:=hv
      obtain⟨k1,v1,_⟩:=hpr k p gp
      have ck:KeyW y.c→∀j,x.H.tgt p.key=some j→j<x.H.cells.length∧Held x.H j:=fun hK j' hj'=>⟨(tgt_lt h2 k1 hj').1,.key hHj gc hpm hK hj'⟩
      have cv:ValW y.c→Hit x.H (keyS x.H y.c p q.1).1 p.key→∀j,x.H.tgt p.val=some j→j<x.H.cells.length∧Held x.H j:=fun hV hH j' hj'=>
       ⟨(tgt_lt h2 v1 hj').1,.val hHj gc hpm hV (fun i hi=>(keyS_ok hv1 ck).1.snd i (hH i hi)) hj'⟩
      obtain⟨n1,n2,n3,n4⟩:=holds_next gp hv1 hv2 hv3 hv4 ck cv
      obtain⟨a1,a2,_,_⟩:=keyS_ok (q:=q.1) hv1 ck
      refine v_seq ?_
      repeat' (first
       |(refine k_L ?_;first|(refine k_i ?_;refine g_i rfl rfl ?_)|(refine k_ls ?_;refine g_ls rfl ?_)|(refine k_st ?_;refine g_sw rfl rfl rfl rfl (Nat.le_of_ble_eq_true rfl) ?_)|(refine k_al ?_;refine a_al ?_))
       |refine a_n ?_
       |(refine k_V ?_;refine v_reg ?_)
       |refine s_n ?_
       |refine sk_zero ?_
       |refine sk_succ ?_
       |refine wk_nil ?_
       |refine wk_cons ?_)
      refine g_cut (fun q2:PQ=>[(0,.v (ptr a)),(3,.v (.slice sd.a x.xs.length sd.cap)),(4,.v (.slice q2.2.a q2.1.2.length q2.2.cap)),(9,.v (.int .i64 s0.2.length)),(10,.v (.int .i64 hd)),(11,.box (csw y)),(13,.box (pv p)),(79,.v (.slice y.d.a y.c.pairs.length y.d.cap)),(80,.v (.int .i64 y.c.pairs.length)),(81,.v (.int .i64 k))]) (fun q2=>sqA sd q2.2 q2.1++[ro m]) (fun q2=>q2.1=keyS x.H y.c p q.1) ?_ (fun q2 hq2=>?_)
      ·by_cases hK:KeyW y.c
       ·have hkw:=hK
        unfold KeyW at hkw
        repeat' (first
         |(refine k_L ?_;refine a_p rfl ?_)
         |refine a_n ?_
         |(refine k_V ?_;first|refine v_seq ?_|refine v_reg ?_|(refine v_cd rfl (fun hb=>?_) (fun hb=>?_)<;>try(exfalso;omega))))
        refine g_c rfl (l2mark_n (sd:=sd) (kd:=q.2) (w:=p.key) (s:=q.1) (S:=Held x.H) h h1 h2 k1 hv1 (hv1.len.trans hl)) (fun v As' hq=>?_)
        obtain⟨kd',rfl,rfl⟩:=hq
        repeat' (first
         |(refine k_L ?_;refine a_p rfl ?_)
         |refine a_n ?_
         |refine s_n ?_)
        exact j_i ((mkW x.H q.1 p.key,kd'):PQ) (by unfold keyS;rw[if_pos hK])
       ·have hkw:=hK
        unfold KeyW at hkw
        repeat' (first
         |(refine k_L ?_;refine a_p rfl ?_)
         |refine a_n ?_
         |(refine k_V ?_;first|refine v_seq ?_|refine v_reg ?_|refine v_skip ?_|(refine v_cd rfl (fun hb=>?_) (fun hb=>?_)<;>try(exfalso;omega)))
         |refine s_n ?_)
        exact j_i q (by unfold keyS;rw[if_neg hK])
      ·obtain⟨q2,kd2⟩:=q2
       dsimp only at hq2⊢
       subst hq2
       have hat:=fun hk2=>k1.at hk2
       have yes:∀hH:Hit x.H (keyS x.H y.c p q.1).1 p.key,∀hV:ValW y.c,valS x.H y.c p (keyS x.H y.c p q.1)=mkW x.H (keyS x.H y.c p q.1) p.val:=fun hH hV=>by unfold valS;rw[if_pos ⟨hV,hH⟩]
       have nay:¬(ValW y.c∧Hit x.H (keyS x.H y.c p q.1).1 p.key)→valS x.H y.c p (keyS x.H y.c p q.1)=keyS x.H y.c p q.1:=fun hn=>by unfold valS;rw[if_neg hn]
       have a3:=a1.len.trans hl
       by_cases hk2:p.key.kind=2
       ·have ht:x.H.tgt p.key=some (x.H.lead p.key).at_.toNat:=by unfold Heap.tgt;rw[if_pos (lead_kind.2 hk2)]
        have hlt:=tgt_lt h2 k1 ht
        generalize(x.H.lead p.key).at_.toNat=kk at ht hlt
        have e:x.H.lead p.key=⟨2,(x.H.lead p.key).num,(kk:Int)⟩:=by rw[←hlt.2.1,←hlt.2.2]
        obtain⟨b,gb⟩:∃b,(keyS x.H y.c p q.1).1[kk]?=some b:=⟨_,List.getElem?_eq_getElem (by rw[a1.len];exact hlt.1)⟩
        have hHb:Hit x.H (keyS x.H y.c p q.1).1 p.key↔b=true:=by
         constructor
         ·intro hH
          have:=hH kk ht
          rw[gb]at this;simpa using this
         ·intro hb j' hj'
          rw[ht]at hj';cases hj'
          rw[gb,hb]
        by_cases hV:ValW y.c
        ·have hvw:=hV
         unfold ValW at hvw
         cases b with
         |true=>
          rw[yes (hHb.2 rfl) hV]at n1 n2 n3 n4
          repeat' (first
           |(refine k_L ?_;first|refine a_p rfl ?_|(refine k_g ?_;first|refine a_gy rfl rfl ?_|(refine a_gd rfl (fun hb=>?_) (fun hb=>?_)<;>try(exfalso;omega)))|(refine k_l ?_;refine g_l rfl ?_)|(refine k_i ?_;refine g_i rfl rfl ?_)|(refine k_st ?_;refine g_sw rfl rfl rfl rfl (Nat.le_of_ble_eq_true rfl) ?_)|(refine k_al ?_;refine a_al ?_)|(refine k_c ?_;refine a_cq rfl (fun m hm=>qt_e (l1resolve_q (has_g h hm) hat) (congrArg wa e)) ?_))
           |refine a_n ?_
           |(refine k_V ?_;first|refine v_seq ?_|refine v_reg ?_|refine v_ct rfl ?_)
           |refine sk_zero ?_
           |refine sk_succ ?_
           |refine wk_nil ?_
           |refine wk_cons ?_)
          refine g_c rfl (l2mark_n (sd:=sd) (kd:=kd2) (w:=p.val) (s:=keyS x.H y.c p q.1) (S:=Held x.H) h h1 h2 v1 a1 a3) (fun v As' hq=>?_)
          obtain⟨kd',rfl,rfl⟩:=hq
          repeat' (first
           |(refine k_L ?_;refine a_p rfl ?_)
           |refine a_n ?_)
          exact r_nx ((mkW x.H (keyS x.H y.c p q.1) p.val,kd'):PQ) ⟨n1,n2,n3,n4⟩ (he:=Pm.ent pmt)
         |false=>
          rw[nay (fun h=>by have:=hHb.1 h.2;cases this)]at n1 n2 n3 n4
          repeat' (first
           |(refine k_L ?_;first|refine a_p rfl ?_|(refine k_g ?_;first|refine a_gy rfl rfl ?_|(refine a_gd rfl (fun hb=>?_) (fun hb=>?_)<;>try(exfalso;omega)))|(refine k_l ?_;refine g_l rfl ?_)|(refine k_i ?_;refine g_i rfl rfl ?_)|(refine k_st ?_;refine g_sw rfl rfl rfl rfl (Nat.le_of_ble_eq_true rfl) ?_)|(refine k_al ?_;refine a_al ?_)|(refine k_c ?_;refine a_cq rfl (fun m hm=>qt_e (l1resolve_q (has_g h hm) hat) (congrArg wa e)) ?_))
           |refine a_n ?_
           |(refine k_V ?_;first|refine v_seq ?_|refine v_reg ?_|refine v_skip ?_|refine v_cf rfl ?_)
           |refine sk_zero ?_
           |refine sk_succ ?_
           |refine wk_nil ?_
           |refine wk_cons ?_)
          exact r_nx ((keyS x.H y.c p q.1,kd2):PQ) ⟨n1,n2,n3,n4⟩ (he:=Pm.ent pmt)
        ·have hvw:=hV
         unfold ValW at hvw
         rw[nay (fun h=>hV h.1)]at n1 n2 n3 n4
         repeat' (first
          |(refine k_L ?_;first|refine a_p rfl ?_|(refine k_g ?_;first|refine a_gn rfl rfl ?_|refine a_gu rfl ?_|(refine a_gd rfl (fun hb=>?_) (fun hb=>?_)<;>try(exfalso;omega)))|(refine k_st ?_;refine g_sw rfl rfl rfl rfl (Nat.le_of_ble_eq_true rfl) ?_)|(refine k_al ?_;refine a_al ?_)|(refine k_c ?_;refine a_cq rfl (fun m hm=>qt_e (l1resolve_q (has_g h hm) hat) (congrArg wa e)) ?_))
          |refine a_n ?_
          |(refine k_V ?_;first|refine v_seq ?_|refine v_reg ?_|refine v_skip ?_|refine v_cf rfl ?_)
          |refine sk_zero ?_
          |refine sk_succ ?_
          |refine wk_nil ?_
          |refine wk_cons ?_)
         exact r_nx ((keyS x.H y.c p q.1,kd2):PQ) ⟨n1,n2,n3,n4⟩ (he:=Pm.ent pmt)
       ·have ht:x.H.tgt p.key=none:=by unfold Heap.tgt;rw[if_neg (fun h=>hk2 (lead_kind.1 h))]
        have hk3:¬(x.H.lead p.key).kind=2:=fun h=>hk2 (lead_kind.1 h)
        have hH:Hit x.H (keyS x.H y.c p q.1).1 p.key:=fun j' hj'=>by rw[ht]at hj';cases hj'
        by_cases hV:ValW y.c
        ·have hvw:=hV
         unfold ValW at hvw
         rw[yes hH hV]at n1 n2 n3 n4
         repeat' (first
          |(refine k_L ?_;first|refine a_p rfl ?_|(refine k_g ?_;first|refine a_gy rfl rfl ?_|refine a_gn rfl rfl ?_|(refine a_gd rfl (fun hb=>?_) (fun hb=>?_)<;>try(exfalso;omega))|(refine a_gne rfl (fun hb=>?_) (fun hb=>?_)<;>try(exfalso;omega)))|(refine k_st ?_;refine g_sw rfl rfl rfl rfl (Nat.le_of_ble_eq_true rfl) ?_)|(refine k_al ?_;refine a_al ?_)|(refine k_c ?_;refine a_cq rfl (fun m hm=>l1resolve_q (has_g h hm) hat) ?_))
          |refine a_n ?_
          |(refine k_V ?_;first|refine v_seq ?_|refine v_reg ?_|refine v_ct rfl ?_)
          |refine sk_zero ?_
          |refine sk_succ ?_
          |refine wk_nil ?_
          |refine wk_cons ?_)
         refine g_c rfl (l2mark_n (sd:=sd) (kd:=kd2) (w:=p.val) (s:=keyS x.H y.c p q.1) (S:=Held x.H) h h1 h2 v1 a1 a3) (fun v As' hq=>?_)
         obtain⟨kd',rfl,rfl⟩:=hq
         repeat' (first
          |(refine k_L ?_;refine a_p rfl ?_)
          |refine a_n ?_)
         exact r_nx ((mkW x.H (keyS x.H y.c p q.1) p.val,kd'):PQ) ⟨n1,n2,n3,n4⟩ (he:=Pm.ent pmt)
        ·have hvw:=hV
         unfold ValW at hvw
         rw[nay (fun h=>hV h.1)]at n1 n2 n3 n4
         repeat' (first
          |(refine k_L ?_;first|refine a_p rfl ?_|(refine k_g ?_;first|refine a_gn rfl rfl ?_|refine a_gu rfl ?_|(refine a_gd rfl (fun hb=>?_) (fun hb=>?_)<;>try(exfalso;omega)))|(refine k_st ?_;refine g_sw rfl rfl rfl rfl (Nat.le_of_ble_eq_true rfl) ?_)|(refine k_al ?_;refine a_al ?_)|(refine k_c ?_;refine a_cq rfl (fun m hm=>l1resolve_q (has_g h hm) hat) ?_))
          |refine a_n ?_
          |(refine k_V ?_;first|refine v_seq ?_|refine v_reg ?_|refine v_skip ?_|refine v_cf rfl ?_)
          |refine sk_zero ?_
          |refine sk_succ ?_
          |refine wk_nil ?_
          |refine wk_cons ?_)
         exact r_nx ((keyS x.H y.c p q.1,kd2):PQ) ⟨n1,n2,n3,n4⟩ (he:=Pm.ent pmt)
     ·obtain⟨hv1,hv2,hv3,hv4⟩:=hv
      rw[List.take_of_length_le (Nat.le_refl _)]at hv4
      have hgl2:=hv2.len
      have hmsr:=hv2.msr
      repeat' (first
       |(refine k_L ?_;first|(refine k_ad ?_;refine g_ad rfl rfl ?_)|refine a_p rfl ?_)
       |refine a_n ?_
       |(refine k_V ?_;refine v_reg ?_)
       |refine s_n ?_)
      refine⟨_,(q,hd+1),?_,⟨rfl,rfl,rfl,rfl,rfl,trivial⟩,Pm.ent pmt,rfl,?_,hv1,hgr.trans hv2,hsm.trans hv3 hgl2 hgl,fun e k' j' c hk' hg' hc'=>?_⟩
      ·dsimp only;omega
      ·dsimp only;omega
      ·dsimp only at e hk'
       have es:s=s0:=by
        rcases hsm with h'|h'
        ·exact h'
        ·exfalso;rw[e]at hgl2;omega
       subst es
       by_cases ek:k'=hd
       ·subst ek
        rw[gg]at hg'
        have:j'=j:=by have:=Option.some.inj hg';omega
        subst this
        rw[gc]at hc';cases hc'
        exact fun p hp=>hv4 e p hp
       ·exact hcalm rfl k' j' c (by omega) hg' hc'
    ·repeat' (first
      |(refine k_L ?_;refine a_p rfl ?_)
      |refine a_n ?_
      |(refine k_V ?_;first|refine v_seq ?_|refine v_reg ?_|refine v_exit ?_|(refine v_cd rfl (fun hb=>?_) (fun hb=>?_)<;>try(exfalso;omega)))
      |refine s_n ?_
      |refine s_e ?_
      |refine b_n ?_
      |refine b_e ?_)
     refine⟨_,((s,kd),(s0.2.length:Int)),?_,⟨rfl,rfl,rfl,rfl,trivial⟩,Pm.ent pmt,rfl,⟨hok,fun j hj=>?_⟩,⟨fun w hw=>(hfull.regs w hw).grow hgr,fun i c hc hl2=>hgr.mono i (hfull.dues i c hc hl2)⟩,fun e i c hi hc=>?_⟩
     ·dsimp only
      rw[if_neg hbf]
      rcases hsm with rfl|hs
      ·rw[if_pos rfl];omega
      ·split<;>omega
     ·rcases hgr.new j hj with h'|h'
      ·exact hgr.old _ (hma.all j h')
      ·exact h'
     ·dsimp only at e hi⊢
      rcases hsm with rfl|hs
      ·obtain⟨k,hk⟩:=List.getElem?_of_mem (hma.all i hi)
       have hkl:=(List.getElem?_eq_some_iff.1 hk).1
       exact hcalm rfl k i c (by omega) hk hc
      ·omega
abbrev WE:=D×List Word
def wv0:WE:=(⟨none,0⟩,[])
def WE.sl(e:WE):Value:=.slice e.1.a e.2.length e.1.cap
def wtA(W:List WE):Asr:=star (W.map fun e=>slA 3 wv e.1 e.2)
def wmA(b:Nat)(W:List WE):Asr:=fun m=>∃g,mpA b g m∧∀(j:Nat) e,W[j]?=some e→(g j).getD (.slice none 0 0)=e.sl
theorem wt_out{W:List WE}{i:Nat}{e:WE}(hi:W[i]?=some e){m:Mem}(h:wtA W m):star [slA 3 wv e.1 e.2,wtA (W.eraseIdx i)] m:=by
 obtain⟨hlt,he⟩:=List.getElem?_eq_some_iff.1 hi
 have hp:=(erase_perm hlt).symm.map (fun e:WE=>slA 3 wv e.1 e.2)
 have:=star_perm hp h
 rw[he]at this
 obtain⟨a,b,d,e1,h1,h2⟩:=this
 exact star2.2 ⟨a,b,d,e1,h1,h2⟩
theorem wt_in{W:List WE}{i:Nat}{e':WE}(hi:i<W.length){m:Mem}(h:star [slA 3 wv e'.1 e'.2,wtA (W.eraseIdx i)] m):wtA (W.set i e') m:=by
 have hlt:i<(W.set i e').length:=by simpa using hi
 have hp:=(erase_perm hlt).map (fun e:WE=>slA 3 wv e.1 e.2)
 rw[List.getElem_set_self,List.eraseIdx_set_eq]at hp
 refine star_perm hp ?_
 obtain⟨a,b,d,e1,h1,h2⟩:=star2.1 h
 exact⟨a,b,d,e1,h1,h2⟩
theorem ent_wout{W:List WE}{i:Nat}{e:WE}{R:List Asr}(hi:W[i]?=some e):Ent (wtA W::R) (slA 3 wv e.1 e.2::wtA (W.eraseIdx i)::R):=ent_of fun m h=>by
 have:=star_cons_mono h (fun _ h=>wt_out hi h) (fun _ h=>h)
 exact star_in.1 this
theorem ent_win{W:List WE}{i:Nat}{e':WE}{R:List Asr}(hi:i<W.length):Ent (slA 3 wv e'.1 e'.2::wtA (W.eraseIdx i)::R) (wtA (W.set i e')::R):=ent_of fun m h=>by
 have:star (star [slA 3 wv e'.1 e'.2,wtA (W.eraseIdx i)]::R) m:=star_in.2 h
 exact star_cons_mono this (fun _ h=>wt_in hi h) (fun _ h=>h)
theorem sl_nil{α:Type}{f:α→List Value}{size:Nat}:slA size f ⟨none,0⟩ [] emp:=⟨.inl ⟨0,rfl,rfl,rfl⟩,fun _ _=>rfl⟩
theorem ent_wclr{W:List WE}{i:Nat}{R:List Asr}(hi:i<W.length):Ent (wtA (W.eraseIdx i)::R) (wtA (W.set i wv0)::R):=ent_h fun m h=>wt_in hi (star2.2 ⟨emp,m,fun _=>.inl rfl,rfl,sl_nil,h⟩)
theorem wt_nil:∀n:Nat,wtA (List.replicate n wv0) emp
 |0=>rfl
 |n+1=>⟨emp,emp,fun _=>.inl rfl,rfl,sl_nil,wt_nil n⟩
theorem ent_wnil{n:Nat}{R:List Asr}:Ent R (wtA (List.replicate n wv0)::R):=ent_of fun m h=>⟨emp,m,fun _=>.inl rfl,rfl,wt_nil n,h⟩
theorem ent_wm0{b n:Nat}{R:List Asr}:Ent (mpA b (fun _=>none)::R) (wmA b (List.replicate n wv0)::R):=ent_h fun m h=>⟨_,h,fun j e he=>by
 rw[List.getElem?_replicate]at he
 split at he
 ·cases he;rfl
 ·cases he⟩
theorem ent_wm{b:Nat}{g:Int→Option Value}{W:List WE}{R:List Asr}(hW:∀(j:Nat) e,W[j]?=some e→(g j).getD (.slice none 0 0)=WE.sl e):Ent (mpA b g::R) (wmA b W::R):=ent_h fun m h=>⟨g,h,hW⟩
theorem v_wm{E:Env}{c:C}{Q:X→St→List Asr→Prop}{S:St}{b:Nat}{W:List WE}{R:List Asr}(h:∀g:Int→Option Value,(∀(j:Nat) e,W[j]?=some e→(g j).getD (.slice none 0 0)=WE.sl e)→VA E c Q S (mpA b g::R)):VA E c Q S (wmA b W::R):=
 ⟨fun m hm=>by
   obtain⟨a,c,dj,e1,⟨g,hg,hW⟩,hR⟩:=hm
   exact(h g hW).out m ⟨a,c,dj,e1,hg,hR⟩⟩
theorem wm_clr{g:Int→Option Value}{W:List WE}{j:Nat}(hW:∀(j:Nat) e,W[j]?=some e→(g j).getD (.slice none 0 0)=WE.sl e):
 ∀(i:Nat) e,(W.set j wv0)[i]?=some e→((fun i:Int=>if i=(j:Int)then none else g i) i).getD (.slice none 0 0)=WE.sl e:=by
 intro i e he
 rw[List.getElem?_set]at he
 by_cases h:j=i
 ·subst h
  rw[if_pos rfl]at he
  split at he
  ·cases he;simp;rfl
  ·cases he
 ·rw[if_neg h]at he
  have:¬((i:Int)=(j:Int)):=by omega
  simp only[this,if_false]
  exact hW i e he
theorem wm_put{g:Int→Option Value}{W:List WE}{j:Nat}{e':WE}(hW:∀(j:Nat) e,W[j]?=some e→(g j).getD (.slice none 0 0)=WE.sl e):
 ∀(i:Nat) e,(W.set j e')[i]?=some e→((fun i:Int=>if i=(j:Int)then some (WE.sl e')else g i) i).getD (.slice none 0 0)=WE.sl e:=by
 intro i e he
 rw[List.getElem?_set]at he
 by_cases h:j=i
 ·subst h
  rw[if_pos rfl]at he
  split at he
  ·cases he;simp
  ·cases he
 ·rw[if_neg h]at he
  have:¬((i:Int)=(j:Int)):=by omega
  simp only[this,if_false]
  exact hW i e he
def PairOk(H:Heap)(seen:List Bool)(W:List WE)(c:Cell)(p:Pair):Prop:=
 (KeyW c→Hit H seen p.key)∧(ValW c→Hit H seen p.val∨∃k e,H.tgt p.key=some k∧W[k]?=some e∧p.val∈e.2)
structure HI (H:Heap) (s:List Bool×List Int) (W:List WE) (B:Nat) (pc:Nat) (ex ew:Nat→Prop):Prop where
 mk':Mk H (Held H) s
 pc:pc+s.2.length+s.1.count false≤H.cells.length
 wl:W.length=H.cells.length
 wlen:∀e,e∈W→e.2.length≤B
 wok:∀(k:Nat) e,W[k]?=some e→∀w,w∈e.2→Formed H w∧(Held H k→∀j,H.tgt w=some j→j<H.cells.length∧Held H j)
 rule:∀(i:Nat) c,s.1[i]?=some true→(i:Int)∉s.2→¬ex i→H.cells[i]?=some c→∀p,p∈c.pairs→PairOk H s.1 W c p
 empt:∀(k:Nat) e,W[k]?=some e→s.1[k]?=some true→(k:Int)∉s.2→¬ew k→e.2=[]
theorem PairOk.grow{H:Heap}{s t:List Bool×List Int}{W:List WE}{c:Cell}{p:Pair}(h:PairOk H s.1 W c p)(g:Grow s t):PairOk H t.1 W c p:=
 ⟨fun k=>(h.1 k).grow g,fun v=>(h.2 v).imp (fun h=>h.grow g) id⟩
theorem HI.mark{H:Heap}{s:List Bool×List Int}{W:List WE}{B pc:Nat}{ex ew:Nat→Prop}{w:Word}(h:HI H s W B pc ex ew)(hw:∀j,H.tgt w=some j→j<H.cells.length∧Held H j):HI H (mkW H s w) W B pc ex ew∧Grow s (mkW H s w)∧Hit H (mkW H s w).1 w:=by
 obtain⟨a,g,d⟩:=mkW_ok h.mk' hw
 have hn:∀i:Nat,(mkW H s w).1[i]?=some true→(i:Int)∉(mkW H s w).2→s.1[i]?=some true∧(i:Int)∉s.2:=fun i h1 h2=>⟨(g.new i h1).elim id fun h'=>absurd h' h2,fun h'=>h2 (g.old _ h')⟩
 refine⟨⟨a,?_,h.wl,h.wlen,h.wok,fun i c h1 h2 h3 h4 p hp=>(h.rule i c (hn i h1 h2).1 (hn i h1 h2).2 h3 h4 p hp).grow g,fun k e h1 h2 h3 h4=>h.empt k e h1 (hn k h2 h3).1 (hn k h2 h3).2 h4⟩,g,d⟩
 have:=h.pc
 unfold mkW
 split
 ·split
  ·rename_i j _ hs
   have:=count_set hs
   simp only[List.length_append,List.length_singleton]
   omega
  ·exact this
 ·exact this
theorem HI.weak{H:Heap}{s:List Bool×List Int}{W:List WE}{B B' pc:Nat}{ex ew:Nat→Prop}(h:HI H s W B pc ex ew)(hB:B≤B'):HI H s W B' pc ex ew:=⟨h.mk',h.pc,h.wl,fun e he=>Nat.le_trans (h.wlen e he) hB,h.wok,h.rule,h.empt⟩
theorem HI.pop{H:Heap}{seen:List Bool}{init:List Int}{j:Nat}{W:List WE}{B pc:Nat}(h:HI H (seen,init++[(j:Int)]) W B pc (fun _=>False) (fun _=>False)):HI H (seen,init) W B (pc+1) (fun i=>i=j) (fun i=>i=j):=by
 have hp:=h.pc
 simp only[List.length_append,List.length_singleton]at hp
 have hn:∀i:Nat,(i:Int)∉init→¬i=j→(i:Int)∉init++[(j:Int)]:=fun i h1 h2 h3=>by
  rcases List.mem_append.1 h3 with h3|h3
  ·exact h1 h3
  ·simp only[List.mem_singleton]at h3;omega
 refine⟨⟨h.mk'.len,h.mk'.snd,fun g hg=>h.mk'.stk g (by simp[hg]),?_⟩,?_,h.wl,h.wlen,h.wok,fun i c h1 h2 h3 h4 p hp'=>h.rule i c h1 (hn i h2 h3) (fun h=>h) h4 p hp',fun k e h1 h2 h3 h4=>h.empt k e h1 h2 (hn k h3 h4) (fun h=>h)⟩
 ·dsimp only;omega
 ·dsimp only;omega
theorem HI.clr{H:Heap}{s:List Bool×List Int}{W:List WE}{B pc j:Nat}{e:WE}(h:HI H s W B pc (fun i=>i=j) (fun i=>i=j))(he:W[j]?=some e)(hh:∀w,w∈e.2→Hit H s.1 w):HI H s (W.set j wv0) B pc (fun i=>i=j) (fun _=>False):=by
 have hjl:=(List.getElem?_eq_some_iff.1 he).1
 have hg:∀(k:Nat) e',(W.set j wv0)[k]?=some e'→(k=j∧e'=wv0)∨(k≠j∧W[k]?=some e'):=fun k e' h=>by
  rw[List.getElem?_set]at h
  by_cases hk:j=k
  ·subst hk
   rw[if_pos rfl,if_pos hjl]at h
   exact .inl ⟨rfl,(Option.some.inj h).symm⟩
  ·rw[if_neg hk]at h
   exact .inr ⟨fun e=>hk e.symm,h⟩
 refine⟨h.mk',h.pc,by simpa using h.wl,fun e' he'=>?_,fun k e' hk w hw=>?_,fun i c h1 h2 h3 h4 p hp=>?_,fun k e' hk h2 h3 _=>?_⟩
 ·obtain⟨k,hk⟩:=List.getElem?_of_mem he'
  rcases hg k e' hk with⟨_,rfl⟩|⟨_,h'⟩
  ·simp[wv0]
  ·exact h.wlen e' (List.mem_of_getElem? h')
 ·rcases hg k e' hk with⟨_,rfl⟩|⟨_,h'⟩
  ·simp[wv0]at hw
  ·exact h.wok k e' h' w hw
 ·obtain⟨r1,r2⟩:=h.rule i c h1 h2 h3 h4 p hp
  refine⟨r1,fun hv=>?_⟩
  rcases r2 hv with r|⟨k,e',ht,hk,hm⟩
  ·exact .inl r
  ·by_cases hkj:k=j
   ·subst hkj
    rw[he]at hk;cases hk
    exact .inl (hh _ hm)
   ·exact .inr ⟨k,e',ht,by rw[List.getElem?_set_ne (fun e=>hkj e.symm)];exact hk,hm⟩
 ·rcases hg k e' hk with⟨_,rfl⟩|⟨hne,h'⟩
  ·rfl
  ·exact h.empt k e' h' h2 h3 hne
theorem HI.wait{H:Heap}{s:List Bool×List Int}{W:List WE}{B pc k:Nat}{ex:Nat→Prop}{e:WE}{d:D}{w:Word}(h:HI H s W B pc ex (fun _=>False))(he:W[k]?=some e)(hs:s.1[k]?=some false)(hw:Formed H w∧(Held H k→∀j,H.tgt w=some j→j<H.cells.length∧Held H j)):
 HI H s (W.set k (d,e.2++[w])) (B+1) pc ex (fun _=>False)∧∀c p,PairOk H s.1 W c p→PairOk H s.1 (W.set k (d,e.2++[w])) c p:=by
 have hkl:=(List.getElem?_eq_some_iff.1 he).1
 have hg:∀(i:Nat) e',(W.set k (d,e.2++[w]))[i]?=some e'→(i=k∧e'=(d,e.2++[w]))∨(i≠k∧W[i]?=some e'):=fun i e' h=>by
  rw[List.getElem?_set]at h
  by_cases hk:k=i
  ·subst hk
   rw[if_pos rfl,if_pos hkl]at h
   exact .inl ⟨rfl,(Option.some.inj h).symm⟩
  ·rw[if_neg hk]at h
   exact .inr ⟨fun e=>hk e.symm,h⟩
 have hpo:∀c p,PairOk H s.1 W c p→PairOk H s.1 (W.set k (d,e.2++[w])) c p:=fun c p ⟨r1,r2⟩=>⟨r1,fun hv=>by
  rcases r2 hv with r|⟨i,e',ht,hi,hm⟩
  ·exact .inl r
  ·by_cases hik:i=k
   ·subst hik
    rw[he]at hi;cases hi
    exact .inr ⟨i,(d,e.2++[w]),ht,by rw[List.getElem?_set,if_pos rfl,if_pos hkl],List.mem_append_left _ hm⟩
   ·exact .inr ⟨i,e',ht,by rw[List.getElem?_set_ne (fun e=>hik e.symm)];exact hi,hm⟩⟩
 refine⟨⟨h.mk',h.pc,by simpa using h.wl,fun e' he'=>?_,fun i e' hi w' hw'=>?_,fun i c h1 h2 h3 h4 p hp=>hpo c p (h.rule i c h1 h2 h3 h4 p hp),fun i e' hi h2 h3 _=>?_⟩,hpo⟩
 ·obtain⟨i,hi⟩:=List.getElem?_of_mem he'
  rcases hg i e' hi with⟨_,rfl⟩|⟨_,h'⟩
  ·have:=h.wlen e (List.mem_of_getElem? he)
   simp;omega
  ·have:=h.wlen e' (List.mem_of_getElem? h');omega
 ·rcases hg i e' hi with⟨rfl,rfl⟩|⟨_,h'⟩
  ·rcases List.mem_append.1 hw' with hw'|hw'
   ·exact h.wok i e he w' hw'
   ·simp only[List.mem_singleton]at hw';subst hw';exact hw
  ·exact h.wok i e' h' w' hw'
 ·rcases hg i e' hi with⟨rfl,rfl⟩|⟨hne,h'⟩
  ·rw[hs]at h2;cases h2
  ·exact h.empt i e' h' h2 h3 (fun h=>h)
theorem HI.done{H:Heap}{s:List Bool×List Int}{W:List WE}{B pc j:Nat}{c:Cell}(h:HI H s W B pc (fun i=>i=j) (fun _=>False))(hc:H.cells[j]?=some c)(hp:∀p,p∈c.pairs→PairOk H s.1 W c p):HI H s W B pc (fun _=>False) (fun _=>False):=
 ⟨h.mk',h.pc,h.wl,h.wlen,h.wok,fun i c' h1 h2 _ h4 p hp'=>by
   by_cases e:i=j
   ·subst e;rw[hc]at h4;cases h4;exact hp p hp'
   ·exact h.rule i c' h1 h2 e h4 p hp',h.empt⟩
theorem HI.fin{H:Heap}{seen:List Bool}{W:List WE}{B pc:Nat}(h:HI H (seen,[]) W B pc (fun _=>False) (fun _=>False))(hf:HFull H seen):seen=heldL H:=
 held_end h.mk' hf fun i c hi hc p hp=>by
  obtain⟨r1,r2⟩:=h.rule i c hi (by simp) (fun h=>h) hc p hp
  refine⟨r1,fun hv hk=>?_⟩
  rcases r2 hv with r|⟨k,e,ht,he,hm⟩
  ·exact r
  ·have:=h.empt k e he (hk k ht) (by simp) (fun h=>h)
   rw[this]at hm;cases hm
theorem HI.init(H:Heap){s:List Bool×List Int}(h:MkA H (Held H) s):HI H s (List.replicate H.cells.length wv0) 0 0 (fun _=>False) (fun _=>False):=by
 have hw:∀(k:Nat) e,(List.replicate H.cells.length wv0)[k]?=some e→e=wv0:=fun k e he=>by
  rw[List.getElem?_replicate]at he
  split at he
  ·exact(Option.some.inj he).symm
  ·cases he
 have hc:=h.ok.cnt
 exact⟨h.ok,by omega,by simp,fun e he=>by obtain⟨k,hk⟩:=List.getElem?_of_mem he;rw[hw k e hk];simp[wv0],fun k e he w hw'=>(by rw[hw k e he]at hw';simp[wv0]at hw'),fun i c h1 h2=>absurd (h.all i h1) h2,fun k e he _ _ _=>(by rw[hw k e he];rfl)⟩
abbrev PW:=PQ×List WE
abbrev hoA(m:Mem)(a p1 p2 p3 mb:Nat)(sd:D)(q:PW):List Asr:=seA a p1 p2 p3 sd q.1.2 q.1.1++[wmA mb q.2,wtA q.2,ro m]
theorem holds_a{m:Mem}{a:Nat}{x:HX}(h:Has m (hp a x))(h1:R1 x.H)(h2:R2 x.H)(h4:R4 x.H):FnA Tryz.prog 26 [ptr a] [ro m] (fun v As=>∃sd:D,v=.slice sd.a (heldL x.H).length sd.cap∧As=[slA 1 bv sd (heldL x.H),ro m]):=by
 have hb0:=h.lens
 have hl:=x.len
 have hc1:=h1.cells
 have hc2:=h1.room
 refine fnA_of (fun h=>fn26 (by simp) h) ?_
 repeat' (first
  |(refine k_L ?_;first|refine a_p rfl ?_|(refine k_l ?_;refine g_l rfl ?_)|(refine a_nw (vs:=[ptr a]) rfl rfl (fun p1=>?_))|(refine a_mk (f:=bv) (n:=(x.xs.length:Int)) (k:=(x.xs.length:Int)) false (fun _=>rfl) rfl rfl rfl (by omega) (by omega) (fun sd hsd=>?_)))
  |refine a_n ?_
  |(refine k_V ?_;first|refine v_seq ?_|refine v_reg ?_))
 refine a_nz (fun p2=>?_)
 repeat' (first
  |(refine k_L ?_;first|refine a_p rfl ?_|(refine g_sb rfl rfl rfl rfl ?_)|(refine a_mm (fun mb=>?_)))
  |refine a_n ?_
  |(refine k_V ?_;first|refine v_seq ?_|refine v_reg ?_))
 refine a_nz (fun p3=>?_)
 repeat' (first
  |(refine k_L ?_;first|refine a_p rfl ?_|(refine k_l ?_;refine g_l rfl ?_))
  |refine a_n ?_
  |(refine k_V ?_;first|refine v_seq ?_|refine v_reg ?_)
  |refine s_n ?_)
 have hm0:=mk0 x.H (Held x.H)
 rw[hl]at hm0
 refine VA.ent (ent_new (f:=iv) (size:=1)) ?_
 have hreg:∀w,w∈x.H.regs→∀j,x.H.tgt w=some j→j<x.H.cells.length∧Held x.H j:=fun w hw j hj=>⟨(tgt_lt h2 (h4.regs w hw).1 hj).1,.reg hw hj⟩
 have hfn:fnOk Tryz.prog 63=true:=fnOk_of Tryz.func63 rfl rfl
 refine g_range x.regs.length (fun q:PQ=>[(1,.v (ptr p1)),(3,.v (ptr p2)),(4,.v (.map (some mb))),(5,.v (ptr p3)),(6,.v (.func (.func 63) #[] #[ptr p1,ptr p2,ptr p3])),(29,.v (.slice x.rd.a x.regs.length x.rd.cap))]) (fun q=>seA a p1 p2 p3 sd q.2 q.1++[mpA mb (fun _=>none),ro m])
  (fun i q=>MkA x.H (Held x.H) q.1∧∀w,w∈x.H.regs.take i→Hit x.H q.1.1 w) (((List.replicate x.xs.length false,[]),⟨none,0⟩):PQ) ⟨hm0,by simp⟩ (fun i q hi hv=>?_) (fun q hv=>?_) (hent:=by
  show Ent _ (seA a p1 p2 p3 sd ⟨none,0⟩ (List.replicate x.xs.length false,[])++[mpA mb (fun _=>none),ro m])
  simp only[seA,List.length_replicate]
  exact Pm.ent pmt)
 ·obtain⟨w,gw⟩:∃w,x.regs[i]?=some w:=⟨_,List.getElem?_eq_getElem hi⟩
  have hwm:w∈x.H.regs:=List.mem_of_getElem? gw
  obtain⟨n1,n2,n3⟩:=hv.1.next (hreg w hwm)
  repeat' (first
   |(refine k_L ?_;first|refine a_p rfl ?_|(refine k_i ?_;refine g_i rfl rfl ?_)|(refine k_ls ?_;refine g_ls rfl ?_)|(refine k_st ?_;refine g_sw rfl rfl rfl rfl (Nat.le_of_ble_eq_true rfl) ?_)|(refine k_al ?_;refine a_al ?_)|(refine a_cv rfl hfn rfl (holds1_a (p1:=p1) (p2:=p2) (p3:=p3) (sd:=sd) (kd:=q.2) (w:=w) (S:=Held x.H) h h1 h2 (h4.regs w hwm).1 hv.1.ok) pmt (fun v As' hq=>?_);obtain⟨kd',rfl⟩:=hq))
   |refine a_n ?_
   |(refine k_V ?_;first|refine v_seq ?_|refine v_reg ?_)
   |refine sk_zero ?_
   |refine sk_succ ?_
   |refine wk_nil ?_
   |refine wk_cons ?_)
  refine r_nx ((mkW x.H q.1 w,kd'):PQ) ⟨n1,fun w' hw'=>?_⟩ (he:=Pm.ent pmt)
  rw[List.take_add_one,List.mem_append]at hw'
  rcases hw' with hw'|hw'
  ·exact(hv.2 w' hw').grow n2
  ·rw[show x.H.regs[i]?=some w from gw]at hw'
   simp only[Option.toList_some,List.mem_singleton]at hw'
   subst hw';exact n3
 ·obtain⟨hv1,hv2⟩:=hv
  rw[List.take_of_length_le (by exact Nat.le_refl _)]at hv2
  repeat' (first
   |(refine k_L ?_;first|refine a_p rfl ?_|(refine k_l ?_;refine g_l rfl ?_))
   |refine a_n ?_
   |(refine k_V ?_;first|refine v_seq ?_|refine v_reg ?_)
   |refine s_n ?_)
  refine g_range x.xs.length (fun q:PQ=>[(1,.v (ptr p1)),(3,.v (ptr p2)),(4,.v (.map (some mb))),(5,.v (ptr p3)),(6,.v (.func (.func 63) #[] #[ptr p1,ptr p2,ptr p3])),(42,.v (.slice x.cd.a x.xs.length x.cd.cap))]) (fun q=>seA a p1 p2 p3 sd q.2 q.1++[mpA mb (fun _=>none),ro m])
   (fun i q=>MkA x.H (Held x.H) q.1∧(∀w,w∈x.H.regs→Hit x.H q.1.1 w)∧∀(j:Nat) c,j<i→x.H.cells[j]?=some c→c.last=2→q.1.1[j]?=some true) q ⟨hv1,hv2,fun j c hj=>by omega⟩ (fun i q hi hv=>?_) (fun q hv=>?_) (hent:=Pm.ent pmt)
  ·obtain⟨y,gy,gc⟩:=HX.at hi
   obtain⟨hv1,hv2,hv3⟩:=hv
   by_cases hr:y.c.last=2
   ·have hst:=last2 h2 gc hr
    obtain⟨n1,n2,n3⟩:=hv1.next (w:=⟨2,0,i⟩) (fun j hj=>by
     rw[tgt_root gc hst]at hj
     cases hj
     exact⟨by omega,.due gc hr⟩)
    repeat' (first
     |(refine k_L ?_;first|refine a_p rfl ?_|(refine k_g ?_;first|refine a_gy rfl rfl ?_|(refine a_gd rfl (fun hb=>?_) (fun hb=>?_)<;>try(exfalso;omega)))|(refine k_i ?_;refine g_i rfl rfl ?_)|(refine k_ls ?_;refine g_ls rfl ?_)|(refine k_st ?_;refine g_sw rfl rfl rfl rfl (Nat.le_of_ble_eq_true rfl) ?_)|(refine k_al ?_;refine a_al ?_)|(refine a_cv rfl hfn rfl (holds1_a (p1:=p1) (p2:=p2) (p3:=p3) (sd:=sd) (kd:=q.2) (w:=⟨2,0,i⟩) (S:=Held x.H) h h1 h2 (formed_at (by omega)) hv1.ok) pmt (fun v As' hq=>?_);obtain⟨kd',rfl⟩:=hq))
     |refine a_n ?_
     |(refine k_V ?_;first|refine v_seq ?_|refine v_reg ?_|(refine v_cd rfl (fun hb=>?_) (fun hb=>?_)<;>try(exfalso;omega)))
     |refine sk_zero ?_
     |refine sk_succ ?_
     |refine wk_nil ?_
     |refine wk_cons ?_)
    refine r_nx ((mkW x.H q.1 ⟨2,0,i⟩,kd'):PQ) ⟨n1,fun w' hw'=>(hv2 w' hw').grow n2,fun j c hj hc hl2=>?_⟩ (he:=Pm.ent pmt)
    by_cases e:j=i
    ·subst e
     exact n3 j (tgt_root gc hst)
    ·exact n2.mono j (hv3 j c (by omega) hc hl2)
   ·have nxt:∀(j:Nat) c,j<i+1→x.H.cells[j]?=some c→c.last=2→q.1.1[j]?=some true:=fun j c hj hc hl2=>by
     by_cases e:j=i
     ·subst e;rw[gc]at hc;cases hc;exact absurd hl2 hr
     ·exact hv3 j c (by omega) hc hl2
    repeat' (first
     |(refine k_L ?_;first|refine a_p rfl ?_|(refine k_g ?_;first|refine a_gy rfl rfl ?_|refine a_gn rfl rfl ?_|(refine a_gd rfl (fun hb=>?_) (fun hb=>?_)<;>try(exfalso;omega)))|(refine k_i ?_;refine g_i rfl rfl ?_)|(refine k_ls ?_;refine g_ls rfl ?_)|(refine k_st ?_;refine g_sw rfl rfl rfl rfl (Nat.le_of_ble_eq_true rfl) ?_)|(refine k_al ?_;refine a_al ?_))
     |refine a_n ?_
     |(refine k_V ?_;first|refine v_seq ?_|refine v_reg ?_|refine v_skip ?_|refine v_cf rfl ?_|(refine v_cd rfl (fun hb=>?_) (fun hb=>?_)<;>try(exfalso;omega)))
     |refine sk_zero ?_
     |refine sk_succ ?_
     |refine wk_nil ?_
     |refine wk_cons ?_)
    all_goals exact r_nx q ⟨hv1,hv2,nxt⟩ (he:=Pm.ent pmt)
  ·obtain⟨hv1,hv2,hv3⟩:=hv
   have hfull:HFull x.H q.1.1:=⟨hv2,fun i c hc hr=>hv3 i c (by have:=(List.getElem?_eq_some_iff.1 hc).1;omega) hc hr⟩
   have hi0:=HI.init x.H hv1
   clear hv1 hv2 hv3
   repeat' (first
    |refine a_n ?_
    |(refine k_V ?_;refine v_seq ?_))
   refine VA.ent (Bs:=mpA mb (fun _=>none)::(seA a p1 p2 p3 sd q.2 q.1++[ro m])) (Pm.ent pmt) ?_
   refine VA.ent (ent_wm0 (n:=x.H.cells.length)) ?_
   refine VA.ent (ent_wnil (n:=x.H.cells.length)) ?_
   refine v_blk ?_
   refine v_loop (fun q:PW=>[(1,.v (ptr p1)),(3,.v (ptr p2)),(4,.v (.map (some mb))),(5,.v (ptr p3)),(6,.v (.func (.func 63) #[] #[ptr p1,ptr p2,ptr p3]))]) (fun q=>hoA m a p1 p2 p3 mb sd q)
    (fun k q=>k=2*q.1.1.1.count false+q.1.1.2.length∧(∃pc,HI x.H q.1.1 q.2 (200*pc) pc (fun _=>False) (fun _=>False))∧HFull x.H q.1.1.1) ⟨_,(q,List.replicate x.H.cells.length wv0),⟨rfl,rfl,rfl,rfl,rfl,trivial⟩,Pm.ent pmt,rfl,⟨0,hi0⟩,hfull⟩ ?_
   clear hi0 hfull
   rintro k ⟨⟨⟨seen,stk⟩,kd⟩,W⟩ ⟨rfl,⟨pc,hI⟩,hfull⟩
   dsimp only at hI hfull⊢
   rcases(show stk=[]∨∃init g,stk=init++[g]from by
    by_cases hne:stk=[]
    ·exact .inl hne
    ·exact .inr ⟨_,_,(List.dropLast_concat_getLast hne).symm⟩)with rfl|⟨init,g,rfl⟩
   ·have e:=hI.fin hfull
    subst e
    repeat' (first
     |(refine k_L ?_;first|refine a_p rfl ?_|(refine k_l ?_;refine g_l rfl ?_))
     |refine a_n ?_
     |(refine k_V ?_;first|refine v_seq ?_|refine v_reg ?_|refine v_ret ?_|refine v_exit ?_|refine v_cf rfl ?_))
    exact fa_r (As':=[slA 1 bv sd (heldL x.H),ro m]) (fun _ _=>rfl) (Pm.ent pmt) ⟨sd,rfl,rfl⟩
   ·obtain⟨j,rfl,hj⟩:=hI.mk'.stk g (by simp)
    dsimp only at hj
    have hHj:=hI.mk'.snd j hj
    have hjn:j<x.H.cells.length:=by
     have h1':=(List.getElem?_eq_some_iff.1 hj).1
     have h2':=hI.mk'.len
     dsimp only at h2'
     omega
    have hjl:j<x.xs.length:=by omega
    obtain⟨y,gy,gc⟩:=HX.at hjl
    have hpl:=h2.pl (List.mem_of_getElem? gc)
    have hlen:(init++[(j:Int)]).length=init.length+1:=by simp
    have gj:(init++[(j:Int)])[(((init++[(j:Int)]).length:Int)-1).toNat]?=some (j:Int):=by
     rw[hlen,show(((init.length+1:Nat):Int)-1).toNat=init.length by omega];simp
    have hcnt:=hI.pc
    dsimp only at hcnt
    have e0:(((init++[(j:Int)]).length:Int)-1).toNat=init.length:=by rw[hlen];omega
    obtain⟨we,hwe⟩:∃we,W[j]?=some we:=⟨_,List.getElem?_eq_getElem (by rw[hI.wl];exact hjn)⟩
    have hwlen:=hI.wlen we (List.mem_of_getElem? hwe)
    have hI1:=hI.pop
    refine v_kn (p:=(init++[(j:Int)]).length≤kd.cap) (kn_t (kn_t (kn_t (kn_t (kn_h cp_sl))))) (fun hcap=>?_)
    refine VA.ent (Bs:=wmA mb W::wtA W::(seA a p1 p2 p3 sd kd (seen,init++[(j:Int)])++[ro m])) (Pm.ent pmt) ?_
    refine v_wm (fun gm hgm=>?_)
    have hlk:(gm (j:Int)).getD (.slice none 0 0)=.slice we.1.a we.2.length we.1.cap:=hgm j we hwe
    refine VA.ent (Bs:=wtA W::mpA mb gm::(seA a p1 p2 p3 sd kd (seen,init++[(j:Int)])++[ro m])) (Pm.ent pmt) ?_
    refine VA.ent (ent_wout hwe) ?_
    repeat' (first
     |(refine k_L ?_;first|(refine k_su ?_;refine g_su rfl rfl ?_)|refine a_p rfl ?_|(refine k_l ?_;refine g_l rfl ?_)|(refine k_i ?_;refine g_i rfl rfl ?_)|(refine g_sb rfl rfl rfl rfl ?_)|(refine g_tk rfl rfl ?_)|(refine a_lk (by(fail_if_success apply pk_bad);(repeat(first|exact pk_h|apply pk_t));fail_if_success focus skip) rfl rfl hlk ?_))
     |refine a_n ?_
     |(refine k_V ?_;first|refine v_seq ?_|refine v_reg ?_|refine v_bs ?_|refine v_ret ?_|refine v_exit ?_|refine v_skip ?_|(refine v_cd rfl (fun hb=>?_) (fun hb=>?_)<;>try(exfalso;omega)))
     |refine s_n ?_)
    rotate_left
    ·exfalso;simp at hb
    rw[e0]
    refine VA.ent (Bs:=[slA 1 iv kd (init++[(j:Int)]),bx p1 [ptr a],bx p2 [.slice sd.a seen.length sd.cap],slA 1 bv sd seen,bx p3 [.slice kd.a init.length kd.cap],slA 3 wv we.1 we.2,mpA mb gm,wtA (W.eraseIdx j),ro m]) (Pm.ent pmt) ?_
    refine VA.ent (ent_pre iv_len) ?_
    refine g_range we.2.length (fun q:PQ=>[(1,.v (ptr p1)),(3,.v (ptr p2)),(4,.v (.map (some mb))),(5,.v (ptr p3)),(6,.v (.func (.func 63) #[] #[ptr p1,ptr p2,ptr p3])),(11,.v (.int .i64 j)),(78,.v (.slice we.1.a we.2.length we.1.cap))]) (fun q=>seA a p1 p2 p3 sd q.2 q.1++[slA 3 wv we.1 we.2,mpA mb gm,wtA (W.eraseIdx j),ro m])
     (fun i q=>HI x.H q.1 W (200*pc) (pc+1) (fun i=>i=j) (fun i=>i=j)∧Grow (seen,init) q.1∧∀w,w∈we.2.take i→Hit x.H q.1.1 w) (((seen,init),kd):PQ) ⟨hI1,Grow.refl _,by simp⟩ (fun i q hi hv=>?_) (fun q hv=>?_) (hent:=Pm.ent pmt)
    ·obtain⟨w,gw⟩:∃w,we.2[i]?=some w:=⟨_,List.getElem?_eq_getElem hi⟩
     obtain⟨hv1,hv2,hv3⟩:=hv
     obtain⟨k1,k2⟩:=hI.wok j we hwe w (List.mem_of_getElem? gw)
     obtain⟨n1,n2,n3⟩:=hv1.mark (k2 hHj)
     repeat' (first
      |(refine k_L ?_;first|refine a_p rfl ?_|(refine k_i ?_;refine g_i rfl rfl ?_)|(refine k_ls ?_;refine g_ls rfl ?_)|(refine k_st ?_;refine g_sw rfl rfl rfl rfl (Nat.le_of_ble_eq_true rfl) ?_)|(refine k_al ?_;refine a_al ?_)|(refine a_cv rfl hfn rfl (holds1_a (p1:=p1) (p2:=p2) (p3:=p3) (sd:=sd) (kd:=q.2) (w:=w) (S:=Held x.H) h h1 h2 k1 hv1.mk') pmt (fun v As' hq=>?_);obtain⟨kd',rfl⟩:=hq))
      |refine a_n ?_
      |(refine k_V ?_;first|refine v_seq ?_|refine v_reg ?_)
      |refine sk_zero ?_
      |refine sk_succ ?_
      |refine wk_nil ?_
      |refine wk_cons ?_)
     refine r_nx ((mkW x.H q.1 w,kd'):PQ) ⟨n1,hv2.trans n2,fun w' hw'=>?_⟩ (he:=Pm.ent pmt)
     rw[List.take_add_one,List.mem_append]at hw'
     rcases hw' with hw'|hw'
     ·exact(hv3 w' hw').grow n2
     ·rw[gw]at hw'
      simp only[Option.toList_some,List.mem_singleton]at hw'
      subst hw';exact n3
    ·obtain⟨hv1,hv2,hv3⟩:=hv
     rw[List.take_of_length_le (Nat.le_refl _)]at hv3
     have hI2:=hv1.clr hwe hv3
     repeat' (first
      |(refine k_L ?_;first|refine a_p rfl ?_|(refine k_l ?_;refine g_l rfl ?_)|(refine k_i ?_;refine g_i rfl rfl ?_)|(refine k_ls ?_;refine g_ls rfl ?_)|(refine k_st ?_;refine g_sw rfl rfl rfl rfl (Nat.le_of_ble_eq_true rfl) ?_)|(refine k_al ?_;refine a_al ?_)|(refine a_md (by(fail_if_success apply pk_bad);(repeat(first|exact pk_h|apply pk_t));fail_if_success focus skip) rfl rfl ?_))
      |refine a_n ?_
      |(refine k_V ?_;first|refine v_seq ?_|refine v_reg ?_)
      |refine s_n ?_
      |refine sk_zero ?_
      |refine sk_succ ?_
      |refine wk_nil ?_
      |refine wk_cons ?_)
     refine VA.ent (Bs:=mpA mb (fun i=>if i=(j:Int)then none else gm i)::wtA (W.eraseIdx j)::(seA a p1 p2 p3 sd q.2 q.1++[ro m])) (Pm.ent pmt) ?_
     refine VA.ent (ent_wm (wm_clr hgm)) ?_
     refine VA.ent (Bs:=wtA (W.eraseIdx j)::wmA mb (W.set j wv0)::(seA a p1 p2 p3 sd q.2 q.1++[ro m])) (Pm.ent pmt) ?_
     refine VA.ent (ent_wclr (List.getElem?_eq_some_iff.1 hwe).1) ?_
     refine g_range y.c.pairs.length (fun q:PW=>[(1,.v (ptr p1)),(3,.v (ptr p2)),(4,.v (.map (some mb))),(5,.v (ptr p3)),(6,.v (.func (.func 63) #[] #[ptr p1,ptr p2,ptr p3])),(14,.box (csw y)),(98,.v (.slice y.d.a y.c.pairs.length y.d.cap))]) (fun q=>hoA m a p1 p2 p3 mb sd q)
      (fun k q=>HI x.H q.1.1 q.2 (200*pc+k) (pc+1) (fun i=>i=j) (fun _=>False)∧Grow (seen,init) q.1.1∧∀p,p∈y.c.pairs.take k→PairOk x.H q.1.1.1 q.2 y.c p) ((q,W.set j wv0):PW) ⟨hI2,hv2,by simp⟩ (fun k q hk hv=>?_) (fun q hv=>?_) (hent:=Pm.ent pmt)
     ·obtain⟨p,gp⟩:∃p,y.c.pairs[k]?=some p:=⟨_,List.getElem?_eq_getElem hk⟩
      have hpm:=List.mem_of_getElem? gp
      obtain⟨k1,v1,_⟩:=h4.pairs j y.c gc k p gp
      obtain⟨⟨qs,kd2⟩,Wq⟩:=q
      obtain⟨hv1,hv2,hv3⟩:=hv
      dsimp only at hv1 hv2 hv3⊢
      have ck:KeyW y.c→∀j',x.H.tgt p.key=some j'→j'<x.H.cells.length∧Held x.H j':=fun hK j' hj'=>⟨(tgt_lt h2 k1 hj').1,.key hHj gc hpm hK hj'⟩
      have cv:ValW y.c→(∀i,x.H.tgt p.key=some i→Held x.H i)→∀j',x.H.tgt p.val=some j'→j'<x.H.cells.length∧Held x.H j':=fun hV hH j' hj'=>⟨(tgt_lt h2 v1 hj').1,.val hHj gc hpm hV hH hj'⟩
      have hkey:HI x.H (keyS x.H y.c p qs) Wq (200*pc+k) (pc+1) (fun i=>i=j) (fun _=>False)∧Grow qs (keyS x.H y.c p qs)∧(KeyW y.c→Hit x.H (keyS x.H y.c p qs).1 p.key):=by
       unfold keyS
       by_cases hK:KeyW y.c
       ·rw[if_pos hK]
        obtain⟨a,b,d⟩:=hv1.mark (ck hK)
        exact⟨a,b,fun _=>d⟩
       ·rw[if_neg hK]
        exact⟨hv1,Grow.refl _,fun h=>absurd h hK⟩
      refine v_seq ?_
      repeat' (first
       |(refine k_L ?_;first|(refine k_i ?_;refine g_i rfl rfl ?_)|(refine k_ls ?_;refine g_ls rfl ?_)|(refine k_st ?_;refine g_sw rfl rfl rfl rfl (Nat.le_of_ble_eq_true rfl) ?_)|(refine k_al ?_;refine a_al ?_))
       |refine a_n ?_
       |(refine k_V ?_;refine v_reg ?_)
       |refine s_n ?_
       |refine sk_zero ?_
       |refine sk_succ ?_
       |refine wk_nil ?_
       |refine wk_cons ?_)
      refine g_cut (fun q2:PQ=>[(1,.v (ptr p1)),(3,.v (ptr p2)),(4,.v (.map (some mb))),(5,.v (ptr p3)),(6,.v (.func (.func 63) #[] #[ptr p1,ptr p2,ptr p3])),(14,.box (csw y)),(16,.box (pv p)),(98,.v (.slice y.d.a y.c.pairs.length y.d.cap)),(99,.v (.int .i64 y.c.pairs.length)),(100,.v (.int .i64 k))]) (fun q2=>hoA m a p1 p2 p3 mb sd (q2,Wq)) (fun q2=>q2.1=keyS x.H y.c p qs) ?_ (fun q2 hq2=>?_)
      ·by_cases hK:KeyW y.c
       ·have hkw:=hK
        unfold KeyW at hkw
        repeat' (first
         |(refine k_L ?_;first|refine a_p rfl ?_|(refine a_cv rfl hfn rfl (holds1_a (p1:=p1) (p2:=p2) (p3:=p3) (sd:=sd) (kd:=kd2) (w:=p.key) (S:=Held x.H) h h1 h2 k1 hv1.mk') pmt (fun v As' hq=>?_);obtain⟨kd',rfl⟩:=hq))
         |refine a_n ?_
         |(refine k_V ?_;first|refine v_seq ?_|refine v_reg ?_|(refine v_cd rfl (fun hb=>?_) (fun hb=>?_)<;>try(exfalso;omega)))
         |refine s_n ?_)
        exact j_i ((mkW x.H qs p.key,kd'):PQ) (by unfold keyS;rw[if_pos hK]) (he:=Pm.ent pmt)
       ·have hkw:=hK
        unfold KeyW at hkw
        repeat' (first
         |(refine k_L ?_;refine a_p rfl ?_)
         |refine a_n ?_
         |(refine k_V ?_;first|refine v_seq ?_|refine v_reg ?_|refine v_skip ?_|(refine v_cd rfl (fun hb=>?_) (fun hb=>?_)<;>try(exfalso;omega)))
         |refine s_n ?_)
        exact j_i ((qs,kd2):PQ) (by unfold keyS;rw[if_neg hK]) (he:=Pm.ent pmt)
      ·obtain⟨q2,kd3⟩:=q2
       dsimp only at hq2⊢
       subst hq2
       obtain⟨a1,a2,a4⟩:=hkey
       generalize keyS x.H y.c p qs=ks at a1 a2 a4
       have hat:=fun hk2=>k1.at hk2
       have old:∀p',p'∈y.c.pairs.take k→PairOk x.H ks.1 Wq y.c p':=fun p' hp'=>(hv3 p' hp').grow a2
       have nx:∀{t:List Bool×List Int} {W':List WE},(∀p',PairOk x.H ks.1 Wq y.c p'→PairOk x.H t.1 W' y.c p')→PairOk x.H t.1 W' y.c p→∀p',p'∈y.c.pairs.take (k+1)→PairOk x.H t.1 W' y.c p':=fun ho hn p' hp'=>by
        rw[List.take_add_one,List.mem_append]at hp'
        rcases hp' with hp'|hp'
        ·exact ho p' (old p' hp')
        ·rw[gp]at hp'
         simp only[Option.toList_some,List.mem_singleton]at hp'
         subst hp';exact hn
       by_cases hV:ValW y.c
       ·have hvw:=hV
        unfold ValW at hvw
        by_cases hk2:p.key.kind=2
        ·have ht:x.H.tgt p.key=some (x.H.lead p.key).at_.toNat:=by unfold Heap.tgt;rw[if_pos (lead_kind.2 hk2)]
         have hlt:=tgt_lt h2 k1 ht
         generalize(x.H.lead p.key).at_.toNat=kk at ht hlt
         have e:x.H.toI p.key=(kk:Int):=by unfold Heap.toI;rw[if_pos hk2];exact hlt.2.2
         have hksl:=a1.mk'.len
         have hkl:=hlt.1
         obtain⟨b,gb⟩:∃b,ks.1[kk]?=some b:=⟨_,List.getElem?_eq_getElem (by rw[a1.mk'.len];exact hlt.1)⟩
         cases b with
         |true=>
          have hH:∀i,x.H.tgt p.key=some i→Held x.H i:=fun i hi=>by rw[ht]at hi;cases hi;exact a1.mk'.snd kk gb
          obtain⟨b1,b2,b3⟩:=a1.mark (cv hV hH)
          repeat' (first
           |(refine k_L ?_;first|refine a_p rfl ?_|(refine k_g ?_;refine a_gy rfl rfl ?_)|(refine k_l ?_;refine g_l rfl ?_)|(refine k_i ?_;refine g_i rfl rfl ?_)|(refine k_c ?_;refine a_cq rfl (fun m hm=>qt_e (to_q (has_g h hm) hat) (by rw[e])) ?_)|(refine a_cv rfl hfn rfl (holds1_a (p1:=p1) (p2:=p2) (p3:=p3) (sd:=sd) (kd:=kd3) (w:=p.val) (S:=Held x.H) h h1 h2 v1 a1.mk') pmt (fun v As' hq=>?_);obtain⟨kd',rfl⟩:=hq))
           |refine a_n ?_
           |(refine k_V ?_;first|refine v_seq ?_|refine v_reg ?_|refine v_skip ?_|refine v_ct rfl ?_|(refine v_cn rfl (fun hb=>?_) (fun hb=>?_)<;>try(exfalso;omega))))
          exact r_nx (((mkW x.H ks p.val,kd'),Wq):PW) ⟨b1.weak (by omega),(hv2.trans a2).trans b2,nx (fun p' hp'=>hp'.grow b2) ⟨fun hK=>(a4 hK).grow b2,fun _=>.inl b3⟩⟩ (he:=Pm.ent pmt)
         |false=>
          obtain⟨wk,hwk⟩:∃wk,Wq[kk]?=some wk:=⟨_,List.getElem?_eq_getElem (by rw[a1.wl];exact hlt.1)⟩
          have hwkl:=a1.wlen wk (List.mem_of_getElem? hwk)
          have hpc:=a1.pc
          have hkkl:=(List.getElem?_eq_some_iff.1 hwk).1
          refine VA.ent (Bs:=wmA mb Wq::wtA Wq::(seA a p1 p2 p3 sd kd3 ks++[ro m])) (Pm.ent pmt) ?_
          refine v_wm (fun gw hgw=>?_)
          have hlk2:(gw (kk:Int)).getD (.slice none 0 0)=.slice wk.1.a wk.2.length wk.1.cap:=hgw kk wk hwk
          refine VA.ent (Bs:=wtA Wq::mpA mb gw::(seA a p1 p2 p3 sd kd3 ks++[ro m])) (Pm.ent pmt) ?_
          refine VA.ent (ent_wout hwk) ?_
          repeat' (first
           |(refine k_L ?_;first|refine a_p rfl ?_|(refine k_g ?_;refine a_gy rfl rfl ?_)|(refine k_l ?_;refine g_l rfl ?_)|(refine k_i ?_;refine g_i rfl rfl ?_)|(refine k_bl ?_;refine a_bl rfl ?_)|(refine k_c ?_;refine a_cq rfl (fun m hm=>qt_e (to_q (has_g h hm) hat) (by rw[e])) ?_)|(refine a_lk (by(fail_if_success apply pk_bad);(repeat(first|exact pk_h|apply pk_t));fail_if_success focus skip) rfl rfl hlk2 ?_)|(refine g_ap (f:=wv) p.val wv_len rfl rfl rfl ⟨by omega,by omega⟩ (fun e'=>?_))|(refine a_mu (by(fail_if_success apply pk_bad);(repeat(first|exact pk_h|apply pk_t));fail_if_success focus skip) rfl rfl rfl ?_))
           |refine a_n ?_
           |(refine k_V ?_;first|refine v_seq ?_|refine v_reg ?_|refine v_skip ?_|refine v_cf rfl ?_|(refine v_cn rfl (fun hb=>?_) (fun hb=>?_)<;>try(exfalso;omega))))
          obtain⟨c1,c2⟩:=a1.wait (d:=e') (w:=p.val) hwk gb ⟨v1,fun hHk=>cv hV (fun i hi=>by rw[ht]at hi;cases hi;exact hHk)⟩
          refine r_nx (((ks,kd3),Wq.set kk (e',wk.2++[p.val])):PW) ⟨c1.weak (by omega),hv2.trans a2,nx (fun p' hp'=>c2 y.c p' hp') ⟨a4,fun _=>.inr ⟨kk,(e',wk.2++[p.val]),ht,by rw[List.getElem?_set,if_pos rfl,if_pos hkkl],by simp⟩⟩⟩ (he:=?_)
          refine Ent.trans (B:=slA 3 wv e' (wk.2++[p.val])::wtA (Wq.eraseIdx kk)::mpA mb (fun i=>if i=(kk:Int)then some (WE.sl (e',wk.2++[p.val]))else gw i)::(seA a p1 p2 p3 sd kd3 ks++[ro m])) (Pm.ent pmt) ?_
          refine Ent.trans (ent_win (e':=(e',wk.2++[p.val])) hkkl) ?_
          refine Ent.trans (B:=mpA mb (fun i=>if i=(kk:Int)then some (WE.sl (e',wk.2++[p.val]))else gw i)::wtA (Wq.set kk (e',wk.2++[p.val]))::(seA a p1 p2 p3 sd kd3 ks++[ro m])) (Pm.ent pmt) ?_
          refine Ent.trans (ent_wm (wm_put hgw)) ?_
          exact Pm.ent pmt
        ·have ht:x.H.tgt p.key=none:=by unfold Heap.tgt;rw[if_neg (fun h=>hk2 (lead_kind.1 h))]
         have e:x.H.toI p.key= -1:=by unfold Heap.toI;rw[if_neg hk2]
         have hH:∀i,x.H.tgt p.key=some i→Held x.H i:=fun i hi=>by rw[ht]at hi;cases hi
         obtain⟨b1,b2,b3⟩:=a1.mark (cv hV hH)
         repeat' (first
          |(refine k_L ?_;first|refine a_p rfl ?_|(refine k_g ?_;refine a_gn rfl rfl ?_)|(refine k_l ?_;refine g_l rfl ?_)|(refine k_c ?_;refine a_cq rfl (fun m hm=>qt_e (to_q (has_g h hm) hat) (by rw[e])) ?_)|(refine a_cv rfl hfn rfl (holds1_a (p1:=p1) (p2:=p2) (p3:=p3) (sd:=sd) (kd:=kd3) (w:=p.val) (S:=Held x.H) h h1 h2 v1 a1.mk') pmt (fun v As' hq=>?_);obtain⟨kd',rfl⟩:=hq))
          |refine a_n ?_
          |(refine k_V ?_;first|refine v_seq ?_|refine v_reg ?_|refine v_skip ?_|refine v_ct rfl ?_|(refine v_cn rfl (fun hb=>?_) (fun hb=>?_)<;>try(exfalso;omega))))
         exact r_nx (((mkW x.H ks p.val,kd'),Wq):PW) ⟨b1.weak (by omega),(hv2.trans a2).trans b2,nx (fun p' hp'=>hp'.grow b2) ⟨fun hK=>(a4 hK).grow b2,fun _=>.inl b3⟩⟩ (he:=Pm.ent pmt)
       ·have hvw:=hV
        unfold ValW at hvw
        repeat' (first
         |(refine k_L ?_;refine a_p rfl ?_)
         |refine a_n ?_
         |(refine k_V ?_;first|refine v_seq ?_|refine v_reg ?_|refine v_exit ?_|(refine v_cn rfl (fun hb=>?_) (fun hb=>?_)<;>try(exfalso;omega)))
         |refine s_e ?_)
        exact r_ct (((ks,kd3),Wq):PW) ⟨a1.weak (by omega),hv2.trans a2,nx (fun p' hp'=>hp') ⟨a4,fun h=>absurd h hV⟩⟩ (he:=Pm.ent pmt)
     ·obtain⟨hv1,hv2,hv3⟩:=hv
      rw[List.take_of_length_le (Nat.le_refl _)]at hv3
      have hI3:=(hv1.done gc hv3).weak (B':=200*(pc+1)) (by omega)
      repeat' (first
       |refine a_n ?_
       |refine s_n ?_
       |refine b_n ?_)
      refine⟨_,q,?_,⟨rfl,rfl,rfl,rfl,rfl,trivial⟩,Pm.ent pmt,rfl,⟨pc+1,hI3⟩,⟨fun w hw=>(hfull.regs w hw).grow hv2,fun i c hc hl2=>hv2.mono i (hfull.dues i c hc hl2)⟩⟩
      have:=hv2.msr
      dsimp only at this
      omega
theorem pr_repl{ys:List CS}{i:Nat}{y y':CS}{R:List Asr}(hi:ys[i]?=some y):Ent (prA ys::slA 6 pv y'.d y'.c.pairs::R) (prA (ys.set i y')::R):=⟨fun m hm=>by
 obtain⟨a,r,dj,rfl,h1,b,c,d2,rfl,h2,h3⟩:=hm
 obtain⟨a1,a2,d1,rfl,k1,k2⟩:=star2.1 (pr_out hi h1)
 have hlt:=(List.getElem?_eq_some_iff.1 hi).1
 obtain⟨e1,e2⟩:=disj_un.1 dj
 have e3:=(disj_un'.1 e1).2
 have e4:=(disj_un'.1 e2).2
 have s1:prA (ys.set i y') (b.un a2):=pr_in hlt (star2.2 ⟨b,a2,e3.symm,rfl,h2,k2⟩)
 refine⟨(b.un a2).un c,?_,_,c,disj_un'.2 ⟨d2,e4⟩,rfl,s1,h3⟩
 intro x k hk
 cases h:(b.un a2) x with
 |some k'=>
  rw[un_l h]at hk;cases hk
  cases hb:b x with
  |some k2=>rw[un_l hb]at h;cases h;exact un_r dj (un_l hb)
  |none=>rw[un_n hb]at h;exact un_l (un_r d1 h)
 |none=>rw[un_n h]at hk;exact un_r dj (un_r d2 hk)⟩
theorem a_cs{P:Program}{S:St}{As R:List Asr}{post:St→List Asr→Prop}{r:List I}{x v:Operand}{cd d:D}{ys:List CS}{i:Nat}{y:CS}(ps:List Pair)(hi:ys[i]?=some y)(hx:lc S x=some (.mm cd.b (cd.o+i*8+7)))(hy:ev S v=some (.slice d.a ps.length d.cap))
 (hp:LA P r post S (clA cd (ys.set i ⟨{y.c with pairs:=ps},d.a,d.cap⟩)::R)) (hm:Pm As [clA cd ys,slA 6 pv d ps] R:=by exact pmt):LA P (⟨none,none,.store 1 x v⟩::r) post S As:=by
 refine LA.ent (Bs:=slA 8 csv cd ys::prA ys::slA 6 pv d ps::R) ?_ ?_
 ·refine Ent.trans ⟨fun m hm'=>⟨m,Mem.le_refl _,hm.out m hm'⟩⟩ ?_
  exact cl_open
 refine a_st (n:=1) hx hy rfl rfl (up_h (up_sl (j:=7) (e':=⟨{y.c with pairs:=ps},d.a,d.cap⟩) csv_len hi (by simp[Value.cells]) rfl)) ?_
 refine LA.ent ?_ hp
 refine Ent.trans (Ent.cons (pr_repl (y':=⟨{y.c with pairs:=ps},d.a,d.cap⟩) hi)) ?_
 exact cl_close
theorem tgt_toI{H:Heap}{w:Word}(h2:R2 H)(hf:Formed H w):(∃j:Nat,H.tgt w=some j∧H.toI w=j∧j<H.cells.length)∨(H.tgt w=none∧H.toI w= -1):=by
 by_cases hk:w.kind=2
 ·left
  have ht:H.tgt w=some (H.lead w).at_.toNat:=by unfold Heap.tgt;rw[if_pos (lead_kind.2 hk)]
  have hl:=tgt_lt h2 hf ht
  refine⟨_,ht,?_,hl.1⟩
  unfold Heap.toI
  rw[if_pos hk];exact hl.2.2
 ·right
  refine⟨?_,toI_no hk⟩
  unfold Heap.tgt
  rw[if_neg (fun h=>hk (lead_kind.1 h))]
theorem heldL_get{H:Heap}{j:Nat}(h:j<H.cells.length):(heldL H)[j]?=some (decide (Held H j)):=by
 unfold heldL
 rw[List.getElem?_map,List.getElem?_range h];rfl
theorem Like.toI{H K:Heap}(h:Like H K)(w:Word):K.toI w=H.toI w:=by
 unfold Heap.toI
 rw[h.lead]
theorem Like.formed{H K:Heap}(h:Like H K){w:Word}(hf:Formed H w):Formed K w:=formed_len h.len hf
theorem lost_q{m:Mem}{a b1 b2:Nat}{z:HX}{H:Heap}{sd:D}{w:Word}(h:Has m (hp a z))(hb:Has m [bx b1 [ptr a],bx b2 [.slice sd.a (heldL H).length sd.cap],slA 1 bv sd (heldL H)])(h2:R2 H)(hl:Like H z.H)(hf:Formed H w):
 Qt Tryz.prog 67 [wa w,ptr b1,ptr b2] m (.bool (decide (Lost H w))):=by
 refine qt_of (fnA_of (fun h=>fn67 (by simp) h) ?_)
 have hat:=fun hk=>(hl.formed hf).at hk
 have hln:=heldL_len H
 rcases tgt_toI h2 hf with⟨j,ht,he,hj⟩|⟨ht,he⟩
 ·have hg:=heldL_get hj
  by_cases hh:Held H j
  ·rw[decide_eq_true hh]at hg
   repeat' (first
    |(refine k_L ?_;first|refine a_p rfl ?_|(refine k_g ?_;refine a_gy rfl rfl ?_)|(refine k_l ?_;first|refine a_l rfl (by exact rd_h (rd_ro hb (rd_h (rd_bx rfl)))) ?_|refine a_l rfl (by exact rd_h (rd_ro hb (rd_t (rd_h (rd_bx rfl))))) ?_|refine a_l rfl (by exact rd_h (rd_ro hb (rd_t (rd_t (rd_h (r_bool hg)))))) ?_)|(refine k_i ?_;refine g_i rfl rfl ?_)|(refine k_bx ?_;refine a_bx rfl rfl ?_)|(refine k_c ?_;refine a_cq rfl (fun m hm=>qt_e (to_q (x:=z) (has_g h hm) hat) (by rw[hl.toI,he])) ?_))
    |refine a_n ?_
    |(refine k_V ?_;first|refine v_seq ?_|refine v_reg ?_|refine v_ret ?_))
   exact fa_q (by simp) (fun _ _=>rfl) (ret_f (fun⟨k,hk,hn⟩=>by rw[ht]at hk;cases hk;exact hn hh))
  ·rw[decide_eq_false hh]at hg
   repeat' (first
    |(refine k_L ?_;first|refine a_p rfl ?_|(refine k_g ?_;refine a_gy rfl rfl ?_)|(refine k_l ?_;first|refine a_l rfl (by exact rd_h (rd_ro hb (rd_h (rd_bx rfl)))) ?_|refine a_l rfl (by exact rd_h (rd_ro hb (rd_t (rd_h (rd_bx rfl))))) ?_|refine a_l rfl (by exact rd_h (rd_ro hb (rd_t (rd_t (rd_h (r_bool hg)))))) ?_)|(refine k_i ?_;refine g_i rfl rfl ?_)|(refine k_bx ?_;refine a_bx rfl rfl ?_)|(refine k_c ?_;refine a_cq rfl (fun m hm=>qt_e (to_q (x:=z) (has_g h hm) hat) (by rw[hl.toI,he])) ?_))
    |refine a_n ?_
    |(refine k_V ?_;first|refine v_seq ?_|refine v_reg ?_|refine v_ret ?_))
   exact fa_q (by simp) (fun _ _=>rfl) (ret_t ⟨j,ht,hh⟩)
 ·repeat' (first
   |(refine k_L ?_;first|refine a_p rfl ?_|(refine k_g ?_;refine a_gn rfl rfl ?_)|(refine k_l ?_;refine a_l rfl (by exact rd_h (rd_ro hb (rd_h (rd_bx rfl)))) ?_)|(refine k_bx ?_;refine a_bx rfl rfl ?_)|(refine k_c ?_;refine a_cq rfl (fun m hm=>qt_e (to_q (x:=z) (has_g h hm) hat) (by rw[hl.toI,he])) ?_))
   |refine a_n ?_
   |(refine k_V ?_;first|refine v_seq ?_|refine v_reg ?_|refine v_ret ?_))
  exact fa_q (by simp) (fun _ _=>rfl) (ret_f (fun⟨k,hk,hn⟩=>by rw[ht]at hk;cases hk))
theorem l4lost_q{m:Mem}{a:Nat}{z:HX}{H:Heap}{sd:D}{w:Word}(h:Has m (hp a z))(hbb:Has m [slA 1 bv sd (heldL H)])(h2:R2 H)(hl:Like H z.H)(hf:Formed H w):
 Qt Tryz.prog 78 [ptr a,.slice sd.a (heldL H).length sd.cap,wa w] m (.bool (decide (Lost H w))):=by
 refine qt_of (fnA_of (fun h=>fn78 (by simp) h) ?_)
 have hat:=fun hk=>(hl.formed hf).at hk
 have hln:=heldL_len H
 have hle:=hl.lead w
 rcases tgt_toI h2 hf with⟨j,ht,he,hj⟩|⟨ht,he⟩
 ·have hg:=heldL_get hj
  have hlk:=(tgt_lt h2 hf ht).2
  have hkk:(H.lead w).kind=2:=hlk.1
  have hka:(H.lead w).at_=j:=hlk.2
  by_cases hh:Held H j
  ·rw[decide_eq_true hh]at hg
   have hg':(heldL H)[(H.lead w).at_.toNat]?=some true:=by rw[hka];exact hg
   repeat' (first
    |(refine k_L ?_;first|refine a_p rfl ?_|(refine k_g ?_;first|refine a_gy rfl rfl ?_|(refine a_gd rfl (fun hb=>?_) (fun hb=>?_)<;>try(exfalso;omega)))|(refine k_l ?_;refine a_l rfl (by exact rd_h (rd_ro hbb (rd_h (r_bool hg')))) ?_)|(refine k_i ?_;refine g_i rfl rfl ?_)|(refine k_st ?_;refine g_sw rfl rfl rfl rfl (Nat.le_of_ble_eq_true rfl) ?_)|(refine k_al ?_;refine a_al ?_)|(refine k_bx ?_;refine a_bx rfl rfl ?_)|(refine k_c ?_;refine a_cq rfl (fun m hm=>qt_e (l1resolve_q (x:=z) (has_g h hm) hat) (by rw[hle])) ?_))
    |refine a_n ?_
    |(refine k_V ?_;first|refine v_seq ?_|refine v_reg ?_|refine v_ret ?_)
    |refine sk_zero ?_
    |refine sk_succ ?_
    |refine wk_nil ?_
    |refine wk_cons ?_)
   exact fa_q (by simp) (fun _ _=>rfl) (ret_f (fun⟨k,hk,hn⟩=>by rw[ht]at hk;cases hk;exact hn hh))
  ·rw[decide_eq_false hh]at hg
   have hg':(heldL H)[(H.lead w).at_.toNat]?=some false:=by rw[hka];exact hg
   repeat' (first
    |(refine k_L ?_;first|refine a_p rfl ?_|(refine k_g ?_;first|refine a_gy rfl rfl ?_|(refine a_gd rfl (fun hb=>?_) (fun hb=>?_)<;>try(exfalso;omega)))|(refine k_l ?_;refine a_l rfl (by exact rd_h (rd_ro hbb (rd_h (r_bool hg')))) ?_)|(refine k_i ?_;refine g_i rfl rfl ?_)|(refine k_st ?_;refine g_sw rfl rfl rfl rfl (Nat.le_of_ble_eq_true rfl) ?_)|(refine k_al ?_;refine a_al ?_)|(refine k_bx ?_;refine a_bx rfl rfl ?_)|(refine k_c ?_;refine a_cq rfl (fun m hm=>qt_e (l1resolve_q (x:=z) (has_g h hm) hat) (by rw[hle])) ?_))
    |refine a_n ?_
    |(refine k_V ?_;first|refine v_seq ?_|refine v_reg ?_|refine v_ret ?_)
    |refine sk_zero ?_
    |refine sk_succ ?_
    |refine wk_nil ?_
    |refine wk_cons ?_)
   exact fa_q (by simp) (fun _ _=>rfl) (ret_t ⟨j,ht,hh⟩)
 ·have hkk:(H.lead w).kind≠2:=fun e=>by
   unfold Heap.tgt at ht
   rw[if_pos e]at ht;cases ht
  repeat' (first
   |(refine k_L ?_;first|refine a_p rfl ?_|(refine k_g ?_;first|refine a_gn rfl rfl ?_|(refine a_gd rfl (fun hb=>?_) (fun hb=>?_)<;>try(exfalso;omega)))|(refine k_st ?_;refine g_sw rfl rfl rfl rfl (Nat.le_of_ble_eq_true rfl) ?_)|(refine k_al ?_;refine a_al ?_)|(refine k_bx ?_;refine a_bx rfl rfl ?_)|(refine k_c ?_;refine a_cq rfl (fun m hm=>qt_e (l1resolve_q (x:=z) (has_g h hm) hat) (by rw[hle])) ?_))
   |refine a_n ?_
   |(refine k_V ?_;first|refine v_seq ?_|refine v_reg ?_|refine v_ret ?_)
   |refine sk_zero ?_
   |refine sk_succ ?_
   |refine wk_nil ?_
   |refine wk_cons ?_)
  exact fa_q (by simp) (fun _ _=>rfl) (ret_f (fun⟨k,hk,hn⟩=>by rw[ht]at hk;cases hk))
theorem walked_q{m:Mem}{a:Nat}{x:HX}(h:Has m (hp a x)):Qt Tryz.prog 68 [ptr a] m (.int .i64 x.H.walkedI):=by
 refine qt_of (fnA_of (fun h=>fn68 (by simp) h) ?_)
 have hnc:x.hdr.nc=x.xs.length:=rfl
 have hng:x.hdr.ng=x.gray.length:=rfl
 have hl:=x.len
 have hp0:x.hdr.phase=x.H.phase:=rfl
 have hh0:x.hdr.hand=x.H.hand:=rfl
 have hlen:=h.lens
 unfold Heap.walkedI
 by_cases c:x.H.phase=2∧x.H.gray≠[]
 ·rw[if_pos c]
  obtain⟨g,r,hg⟩:∃g r,x.gray=g::r:=by
   cases e:x.gray with
   |nil=>exact absurd (show x.H.gray=[]from e) c.2
   |cons g r=>exact⟨g,r,rfl⟩
  have hgl:x.gray.length=r.length+1:=by rw[hg];rfl
  have gg:x.gray[(0:Int).toNat]?=some g:=by rw[hg];rfl
  have c1:=c.1
  have e1:x.H.gray.headD 0=g:=by show x.gray.headD 0=g;rw[hg];rfl
  rw[e1]
  repeat' (first
   |(refine k_L ?_;first|refine a_p rfl ?_|(refine k_g ?_;first|refine a_gy rfl rfl ?_|(refine a_gd rfl (fun hb=>?_) (fun hb=>?_)<;>try(exfalso;omega)))|(refine k_l ?_;refine g_l rfl ?_)|(refine k_i ?_;refine g_i rfl rfl ?_))
   |refine a_n ?_
   |(refine k_V ?_;first|refine v_seq ?_|refine v_reg ?_|refine v_bs ?_|refine v_ret ?_|(refine v_cd rfl (fun hb=>?_) (fun hb=>?_)<;>try(exfalso;omega)))
   |refine s_r ?_
   |refine b_r ?_)
  exact fa_q (by simp) (fun _ _=>rfl) rfl
 ·rw[if_neg c]
  have hgz:x.H.phase=2→x.gray.length=0:=fun e=>by
   cases e2:x.gray with
   |nil=>rfl
   |cons g r=>exact absurd ⟨e,by show x.gray≠[];rw[e2];simp⟩ c
  by_cases c2:x.H.phase=5∧x.H.hand<x.H.cells.length
  ·rw[if_pos c2]
   have c3:=c2.1
   have c4:=c2.2
   repeat' (first
    |(refine k_L ?_;first|refine a_p rfl ?_|(refine k_g ?_;first|refine a_gy rfl rfl ?_|refine a_gn rfl rfl ?_|(refine a_gd rfl (fun hb=>?_) (fun hb=>?_)<;>try(exfalso;omega)))|(refine k_l ?_;refine g_l rfl ?_))
    |refine a_n ?_
    |(refine k_V ?_;first|refine v_seq ?_|refine v_reg ?_|refine v_dreg ?_|refine v_bs ?_|refine v_ret ?_|refine v_cf rfl ?_|(refine v_cd rfl (fun hb=>?_) (fun hb=>?_)<;>try(exfalso;omega)))
    |refine s_r ?_
    |refine b_r ?_)
   all_goals exact fa_q (by simp) (fun _ _=>rfl) rfl
  ·rw[if_neg c2]
   have c5:x.H.phase=5→¬x.H.hand<x.H.cells.length:=fun a b=>c2 ⟨a,b⟩
   repeat' (first
    |(refine k_L ?_;first|refine a_p rfl ?_|(refine k_g ?_;first|refine a_gy rfl rfl ?_|refine a_gn rfl rfl ?_|(refine a_gd rfl (fun hb=>?_) (fun hb=>?_)<;>try(exfalso;omega)))|(refine k_l ?_;refine g_l rfl ?_))
    |refine a_n ?_
    |(refine k_V ?_;first|refine v_rv ?_|refine v_seq ?_|refine v_reg ?_|refine v_dreg ?_|refine v_bs ?_|refine v_skip ?_|refine v_cf rfl ?_|(refine v_cd rfl (fun hb=>?_) (fun hb=>?_)<;>try(exfalso;omega))))
   all_goals exact fa_q (by simp) (fun _ _=>rfl) rfl
theorem l4scanned_q{m:Mem}{a:Nat}{x:HX}(h:Has m (hp a x)):Qt Tryz.prog 123 [ptr a] m (.int .i64 x.H.walkedI):=by
 refine qt_of (fnA_of (fun h=>fn123 (by simp) h) ?_)
 have hnc:x.hdr.nc=x.xs.length:=rfl
 have hng:x.hdr.ng=x.gray.length:=rfl
 have hl:=x.len
 have hp0:x.hdr.phase=x.H.phase:=rfl
 have hh0:x.hdr.hand=x.H.hand:=rfl
 have hlen:=h.lens
 unfold Heap.walkedI
 by_cases c:x.H.phase=2∧x.H.gray≠[]
 ·rw[if_pos c]
  obtain⟨g,r,hg⟩:∃g r,x.gray=g::r:=by
   cases e:x.gray with
   |nil=>exact absurd (show x.H.gray=[]from e) c.2
   |cons g r=>exact⟨g,r,rfl⟩
  have hgl:x.gray.length=r.length+1:=by rw[hg];rfl
  have gg:x.gray[(0:Int).toNat]?=some g:=by rw[hg];rfl
  have c1:=c.1
  have e1:x.H.gray.headD 0=g:=by show x.gray.headD 0=g;rw[hg];rfl
  rw[e1]
  repeat' (first
   |(refine k_L ?_;first|refine a_p rfl ?_|(refine k_g ?_;first|refine a_gy rfl rfl ?_|(refine a_gd rfl (fun hb=>?_) (fun hb=>?_)<;>try(exfalso;omega)))|(refine k_l ?_;refine g_l rfl ?_)|(refine k_i ?_;refine g_i rfl rfl ?_))
   |refine a_n ?_
   |(refine k_V ?_;first|refine v_seq ?_|refine v_reg ?_|refine v_ret ?_|(refine v_cd rfl (fun hb=>?_) (fun hb=>?_)<;>try(exfalso;omega)))
   |refine s_r ?_)
  exact fa_q (by simp) (fun _ _=>rfl) rfl
 ·rw[if_neg c]
  have hgz:x.H.phase=2→x.gray.length=0:=fun e=>by
   cases e2:x.gray with
   |nil=>rfl
   |cons g r=>exact absurd ⟨e,by show x.gray≠[];rw[e2];simp⟩ c
  by_cases c2:x.H.phase=5∧x.H.hand<x.H.cells.length
  ·rw[if_pos c2]
   have c3:=c2.1
   have c4:=c2.2
   repeat' (first
    |(refine k_L ?_;first|refine a_p rfl ?_|(refine k_g ?_;first|refine a_gy rfl rfl ?_|refine a_gn rfl rfl ?_|(refine a_gd rfl (fun hb=>?_) (fun hb=>?_)<;>try(exfalso;omega)))|(refine k_l ?_;refine g_l rfl ?_))
    |refine a_n ?_
    |(refine k_V ?_;first|refine v_seq ?_|refine v_reg ?_|refine v_dreg ?_|refine v_ret ?_|refine v_skip ?_|refine v_cf rfl ?_|(refine v_cd rfl (fun hb=>?_) (fun hb=>?_)<;>try(exfalso;omega)))
    |refine s_r ?_)
   all_goals exact fa_q (by simp) (fun _ _=>rfl) rfl
  ·rw[if_neg c2]
   have c5:x.H.phase=5→¬x.H.hand<x.H.cells.length:=fun a b=>c2 ⟨a,b⟩
   repeat' (first
    |(refine k_L ?_;first|refine a_p rfl ?_|(refine k_g ?_;first|refine a_gy rfl rfl ?_|refine a_gn rfl rfl ?_|(refine a_gd rfl (fun hb=>?_) (fun hb=>?_)<;>try(exfalso;omega)))|(refine k_l ?_;refine g_l rfl ?_))
    |refine a_n ?_
    |(refine k_V ?_;first|refine v_rv ?_|refine v_seq ?_|refine v_reg ?_|refine v_dreg ?_|refine v_skip ?_|refine v_cf rfl ?_|(refine v_cd rfl (fun hb=>?_) (fun hb=>?_)<;>try(exfalso;omega))))
   all_goals exact fa_q (by simp) (fun _ _=>rfl) rfl
end Go.Proofs.YtcjmodomfilagaaGreat.E
