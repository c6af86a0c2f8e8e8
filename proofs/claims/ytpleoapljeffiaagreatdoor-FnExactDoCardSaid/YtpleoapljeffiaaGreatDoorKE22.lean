/- A part of the proof. Conditions: none. -/
import Derived.Test.YtpleoapljeffiaaGreatDoorKE21
import Derived.Test.YtpleoapljeffiaaGreatDoorJfDo
import Derived.Test.YtpleoapljeffiaaGreatDoorCards
import Derived.Test.YtpleoapljeffiaaGreatDoorTie
set_option linter.unusedVariables false
set_option linter.unusedSimpArgs false
set_option maxHeartbeats 8000000
set_option maxRecDepth 100000
namespace Go.Proofs.YtpleoapljeffiaaGreatDoor.E
open Go
open Classical
theorem doE_wr{a:Nat}{x:HX}{op n:Int}{ka kb kc:Nat}(h:Sound x.H)(ha:ka≤15)(hb:kb≤15)(ho:op=7∨op=8):FnA Tryz.prog 84 [eV a,.agg #[.int .i64 op,.int .i64 ka,.int .i64 kb,.int .i64 kc,.int .i64 n]] (hp a x) (fun v As=>∃z:HX,v=an (doPair x.H ⟨op,ka,kb,kc,n⟩).code (doPair x.H ⟨op,ka,kb,kc,n⟩).num∧As=hp a z∧z.H=(doPair x.H ⟨op,ka,kb,kc,n⟩).heap):=by
 have hl:=x.len
 have hnc:x.hdr.nc=x.xs.length:=rfl
 have hnr:x.hdr.nr=x.regs.length:=rfl
 have h16:x.regs.length=16:=h.r1.regs
 obtain⟨v,gv⟩:∃w,x.regs[kb]?=some w:=⟨_,List.getElem?_eq_getElem (by omega)⟩
 obtain⟨w,gw⟩:∃w,x.regs[ka]?=some w:=⟨_,List.getElem?_eq_getElem (by omega)⟩
 have er:x.H.getR ka=w:=getR_at gw
 obtain⟨r1,r2⟩:=getR_ok h (r:=ka) (by omega) (by omega)
 rw[er]at r1 r2
 refine fnA_of (fun h=>fn84 (by simp) h) ?_
 unfold doPair
 dsimp only
 rw[if_neg (show ¬(op=5∨op=6) by omega),er]
 by_cases hk:w.kind=2
 ·obtain⟨b0,b1,b2,b3⟩:=r2 hk
  obtain⟨j,hj⟩:=Int.eq_ofNat_of_zero_le b0
  have et:x.H.toI w=(j:Int):=by rw[toI_used hk b2,hj]
  have hwf:w.kind=2→0≤w.at_∧w.at_<x.H.cells.length:=fun _=>⟨b0,b1⟩
  rw[hj]at b1 b2
  obtain⟨y,gy,gc⟩:=HX.at (x:=x) (i:=j) (by omega)
  have gk:=HX.gc gy
  rw[if_neg (fun e=>e hk),hj,gk,Int.toNat_natCast,Int.toNat_natCast]
  have hcj:x.H.cells[j]?=some y.c:=gc
  cases hpp:y.c.pairs[kc]? with
  |none=>
   have:=List.getElem?_eq_none_iff.1 hpp
   rcases ho with rfl|rfl
   ·repeat' (first|refine xx ?_|(refine xy ?_ ?_<;>intro hb<;>try(exfalso;omega))|(refine k_L ?_;first|(refine k_q ?_;refine a_q rfl (fun m hm=>qt_e (to_q (x:=x) (sep_has hm pmt) hwf) (by rw[et])) ?_)|(refine k_c ?_;refine a_cq rfl (fun m hm=>codeE_q) ?_))|fail)
    all_goals exact fa_r (fun _ _=>rfl) (Pm.ent pmt) ⟨x,rfl,rfl,rfl⟩
   ·repeat' (first|refine xx ?_|(refine xy ?_ ?_<;>intro hb<;>try(exfalso;omega))|(refine k_L ?_;first|(refine k_q ?_;refine a_q rfl (fun m hm=>qt_e (to_q (x:=x) (sep_has hm pmt) hwf) (by rw[et])) ?_)|(refine k_c ?_;refine a_cq rfl (fun m hm=>codeE_q) ?_))|fail)
    all_goals exact fa_r (fun _ _=>rfl) (Pm.ent pmt) ⟨x,rfl,rfl,rfl⟩
  |some p=>
   have:=(List.getElem?_eq_some_iff.1 hpp).1
   have ev:x.H.getR kb=v:=getR_at gv
   obtain⟨v1,v2⟩:=getR_ok h (r:=kb) (by omega) (by omega)
   rw[ev]at v1 v2
   have hgr:x.gray.length≤1000000:=by have:=h.r1.gray;have:=h.r1.cells;have:=h.r1.room;have e:x.H.gray.length=x.gray.length:=rfl;omega
   have wrt:∀q:Pair,HX.H {x with xs:=x.xs.set j (y.s_pair kc q)}=x.H.putP j kc q:=fun q=>by
    unfold Heap.putP
    rw[gk]
    unfold HX.H
    simp only[List.map_set];rfl
   have wat:∀q:Pair,v.kind=2→0≤v.at_∧v.at_<(x.H.putP j kc q).cells.length:=fun q hk=>by have:=v1.at hk;show _∧_<((x.H.cells.set j _).length:Int);rw[List.length_set];exact this
   have wst:∀q:Pair,v.kind=2→((x.H.putP j kc q).getC v.at_).state=1:=fun q hk=>by
    have hst:=(v2 hk).2.2.1
    have hji:j<x.H.cells.length:=by omega
    have g:(x.H.putP j kc q).getC v.at_=if v.at_.toNat=j then{x.H.getC j with pairs:=(x.H.getC j).pairs.set kc q}else x.H.getC v.at_:=by rw[getC_L,getC_L];exact getL_set hji
    rw[g];split
    ·exact b2
    ·exact hst
   rcases ho with rfl|rfl
   ·have zH:=wrt ⟨v,p.val⟩
    have hw1:=wat ⟨v,p.val⟩
    have hw2:=wst ⟨v,p.val⟩
    repeat' (first|refine xx ?_|(refine xy ?_ ?_<;>intro hb<;>try(exfalso;omega))|(refine k_L ?_;(refine k_q ?_;refine a_q rfl (fun m hm=>qt_e (to_q (x:=x) (sep_has hm pmt) hwf) (by rw[et])) ?_))|fail)
    have gy':(x.xs.set j (y.s_pair kc ⟨v,p.val⟩))[j]?=some (y.s_pair kc ⟨v,p.val⟩):=by rw[List.getElem?_set,if_pos rfl,if_pos (by omega)]
    have hpp':(y.s_pair kc ⟨v,p.val⟩).c.pairs[kc]?=some ⟨v,p.val⟩:=by show(y.c.pairs.set kc _)[kc]?=_;rw[List.getElem?_set,if_pos rfl,if_pos (by omega)]
    refine a_ls rfl (rs_t (rs_t (rs_h (r_key (y:=y.s_pair kc ⟨v,p.val⟩) (p:=⟨v,p.val⟩) gy' hpp')))) ?_
    refine LA.ent (Pm.ent (fin ({x with xs:=x.xs.set j (y.s_pair kc ⟨v,p.val⟩)}:HX) (e1:=by simp[HX.hdr]))) ?_
    refine g_c rfl (shadeWord_a (x:={x with xs:=x.xs.set j (y.s_pair kc ⟨v,p.val⟩)}) (w:=v) (by rw[zH];exact hw1) (by rw[zH];exact hw2) hgr) (fun v' As' hq=>?_)
    obtain⟨u,rfl,rfl,hu,_⟩:=hq
    repeat' (first|refine xx ?_|(refine k_L ?_;(refine k_c ?_;refine a_cq rfl (fun m hm=>numE_q) ?_))|fail)
    all_goals exact fa_r (fun _ _=>rfl) (Pm.ent pmt) ⟨u,rfl,rfl,by rw[hu,zH,shadeW_put (by omega) v1,ev];rfl⟩
   ·have zH:=wrt ⟨p.key,v⟩
    have hw1:=wat ⟨p.key,v⟩
    have hw2:=wst ⟨p.key,v⟩
    repeat' (first|refine xx ?_|(refine xy ?_ ?_<;>intro hb<;>try(exfalso;omega))|(refine k_L ?_;(refine k_q ?_;refine a_q rfl (fun m hm=>qt_e (to_q (x:=x) (sep_has hm pmt) hwf) (by rw[et])) ?_))|fail)
    have gy':(x.xs.set j (y.s_pair kc ⟨p.key,v⟩))[j]?=some (y.s_pair kc ⟨p.key,v⟩):=by rw[List.getElem?_set,if_pos rfl,if_pos (by omega)]
    have hpp':(y.s_pair kc ⟨p.key,v⟩).c.pairs[kc]?=some ⟨p.key,v⟩:=by show(y.c.pairs.set kc _)[kc]?=_;rw[List.getElem?_set,if_pos rfl,if_pos (by omega)]
    refine a_ls rfl (rs_t (rs_t (rs_h (r_val (y:=y.s_pair kc ⟨p.key,v⟩) (p:=⟨p.key,v⟩) gy' hpp')))) ?_
    refine LA.ent (Pm.ent (fin ({x with xs:=x.xs.set j (y.s_pair kc ⟨p.key,v⟩)}:HX) (e1:=by simp[HX.hdr]))) ?_
    refine g_c rfl (shadeWord_a (x:={x with xs:=x.xs.set j (y.s_pair kc ⟨p.key,v⟩)}) (w:=v) (by rw[zH];exact hw1) (by rw[zH];exact hw2) hgr) (fun v' As' hq=>?_)
    obtain⟨u,rfl,rfl,hu,_⟩:=hq
    repeat' (first|refine xx ?_|(refine k_L ?_;(refine k_c ?_;refine a_cq rfl (fun m hm=>numE_q) ?_))|fail)
    all_goals exact fa_r (fun _ _=>rfl) (Pm.ent pmt) ⟨u,rfl,rfl,by rw[hu,zH,shadeW_put (by omega) v1,ev];rfl⟩
 ·have et:=toI_no (H:=x.H) hk
  rw[if_pos hk]
  rcases ho with rfl|rfl
  ·repeat' (first|refine xx ?_|(refine k_L ?_;first|(refine k_q ?_;refine a_q rfl (fun m hm=>qt_e (to_q (x:=x) (sep_has hm pmt) (fun e=>absurd e hk)) (by rw[et])) ?_)|(refine k_c ?_;refine a_cq rfl (fun m hm=>codeE_q) ?_))|fail)
   all_goals exact fa_r (fun _ _=>rfl) (Pm.ent pmt) ⟨x,rfl,rfl,rfl⟩
  ·repeat' (first|refine xx ?_|(refine k_L ?_;first|(refine k_q ?_;refine a_q rfl (fun m hm=>qt_e (to_q (x:=x) (sep_has hm pmt) (fun e=>absurd e hk)) (by rw[et])) ?_)|(refine k_c ?_;refine a_cq rfl (fun m hm=>codeE_q) ?_))|fail)
   all_goals exact fa_r (fun _ _=>rfl) (Pm.ent pmt) ⟨x,rfl,rfl,rfl⟩
theorem doE_cell{a:Nat}{x:HX}{op n:Int}{ka kb kc:Nat}(h:Sound x.H)(ha:ka≤15)(hc:kc≤200)(ho:op=9∨op=10∨op=11∨op=16∨op=17):FnA Tryz.prog 84 [eV a,.agg #[.int .i64 op,.int .i64 ka,.int .i64 kb,.int .i64 kc,.int .i64 n]] (hp a x) (fun v As=>∃z:HX,v=an (doCell x.H ⟨op,ka,kb,kc,n⟩).code (doCell x.H ⟨op,ka,kb,kc,n⟩).num∧As=hp a z∧z.H=(doCell x.H ⟨op,ka,kb,kc,n⟩).heap):=by
 have hl:=x.len
 have hnc:x.hdr.nc=x.xs.length:=rfl
 have hnr:x.hdr.nr=x.regs.length:=rfl
 have h16:x.regs.length=16:=h.r1.regs
 obtain⟨w,gw⟩:∃w,x.regs[ka]?=some w:=⟨_,List.getElem?_eq_getElem (by omega)⟩
 have er:x.H.getR ka=w:=getR_at gw
 obtain⟨r1,r2⟩:=getR_ok h (r:=ka) (by omega) (by omega)
 rw[er]at r1 r2
 refine fnA_of (fun h=>fn84 (by simp) h) ?_
 unfold doCell
 dsimp only
 rw[er]
 by_cases hk:w.kind=2
 ·obtain⟨b0,b1,b2,b3⟩:=r2 hk
  obtain⟨j,hj⟩:=Int.eq_ofNat_of_zero_le b0
  have et:x.H.toI w=(j:Int):=by rw[toI_used hk b2,hj]
  have hwf:w.kind=2→0≤w.at_∧w.at_<x.H.cells.length:=fun _=>⟨b0,b1⟩
  rw[hj]at b1 b2
  obtain⟨y,gy,gc⟩:=HX.at (x:=x) (i:=j) (by omega)
  have gk:=HX.gc gy
  rw[if_neg (fun e=>e hk),hj,gk,Int.toNat_natCast]
  rcases ho with rfl|rfl|rfl|rfl|rfl
  ·repeat' (first|refine xx ?_|(refine k_L ?_;first|(refine k_q ?_;refine a_q rfl (fun m hm=>qt_e (to_q (x:=x) (sep_has hm pmt) hwf) (by rw[et])) ?_)|(refine g_c rfl (growE_a (x:=x) (op:=9) (n:=n) (ka:=ka) (kb:=kb) (kc:=kc) (j0:=j) h ha hc (by rw[er];exact hk) (by rw[er];exact hj)) (fun v As' hq=>?_);obtain⟨z,rfl,rfl,hz⟩:=hq))|fail)
   all_goals exact fa_r (fun _ _=>rfl) (Pm.ent pmt) ⟨z,rfl,rfl,hz⟩
  ·repeat' (first|refine xx ?_|(refine k_L ?_;first|(refine k_q ?_;refine a_q rfl (fun m hm=>qt_e (to_q (x:=x) (sep_has hm pmt) hwf) (by rw[et])) ?_)|(refine k_c ?_;refine a_cq rfl (fun m hm=>numE_q) ?_)|(refine g_c rfl (cutE_a (x:=x) (i:=j) (n:=kc) h (by omega) b2) (fun v As' hq=>?_);obtain⟨z,rfl,hz⟩:=hq))|fail)
   all_goals exact fa_r (fun _ _=>rfl) (Pm.ent pmt) ⟨z,rfl,rfl,hz⟩
  ·repeat' (first|refine xx ?_|(refine k_L ?_;first|(refine k_q ?_;refine a_q rfl (fun m hm=>qt_e (to_q (x:=x) (sep_has hm pmt) hwf) (by rw[et])) ?_)|(refine k_c ?_;refine a_cq rfl (fun m hm=>numE_q) ?_))|fail)
   refine fa_r (fun _ _=>rfl) (Pm.ent (fin ({x with xs:=x.xs.set j (y.s_weak kc)}:HX) (e1:=by simp[HX.hdr]))) ⟨_,rfl,rfl,?_⟩
   show _=x.H.putW j kc
   unfold Heap.putW
   rw[gk]
   unfold HX.H
   simp only[List.map_set];rfl
  ·repeat' (first|refine xx ?_|(refine k_L ?_;first|(refine k_q ?_;refine a_q rfl (fun m hm=>qt_e (to_q (x:=x) (sep_has hm pmt) hwf) (by rw[et])) ?_)|(refine k_c ?_;refine a_cq rfl (fun m hm=>numE_q) ?_))|fail)
   all_goals exact fa_r (fun _ _=>rfl) (Pm.ent pmt) ⟨x,rfl,rfl,rfl⟩
  ·repeat' (first|refine xx ?_|(refine k_L ?_;first|(refine k_q ?_;refine a_q rfl (fun m hm=>qt_e (to_q (x:=x) (sep_has hm pmt) hwf) (by rw[et])) ?_)|(refine k_c ?_;refine a_cq rfl (fun m hm=>numE_q) ?_))|fail)
   all_goals exact fa_r (fun _ _=>rfl) (Pm.ent pmt) ⟨x,rfl,rfl,rfl⟩
 ·have et:=toI_no (H:=x.H) hk
  rw[if_pos hk]
  rcases ho with rfl|rfl|rfl|rfl|rfl
  ·repeat' (first|refine xx ?_|(refine k_L ?_;first|(refine k_q ?_;refine a_q rfl (fun m hm=>qt_e (to_q (x:=x) (sep_has hm pmt) (fun e=>absurd e hk)) (by rw[et])) ?_)|(refine k_c ?_;refine a_cq rfl (fun m hm=>codeE_q) ?_))|fail)
   all_goals exact fa_r (fun _ _=>rfl) (Pm.ent pmt) ⟨x,rfl,rfl,rfl⟩
  ·repeat' (first|refine xx ?_|(refine k_L ?_;first|(refine k_q ?_;refine a_q rfl (fun m hm=>qt_e (to_q (x:=x) (sep_has hm pmt) (fun e=>absurd e hk)) (by rw[et])) ?_)|(refine k_c ?_;refine a_cq rfl (fun m hm=>codeE_q) ?_))|fail)
   all_goals exact fa_r (fun _ _=>rfl) (Pm.ent pmt) ⟨x,rfl,rfl,rfl⟩
  ·repeat' (first|refine xx ?_|(refine k_L ?_;first|(refine k_q ?_;refine a_q rfl (fun m hm=>qt_e (to_q (x:=x) (sep_has hm pmt) (fun e=>absurd e hk)) (by rw[et])) ?_)|(refine k_c ?_;refine a_cq rfl (fun m hm=>codeE_q) ?_))|fail)
   all_goals exact fa_r (fun _ _=>rfl) (Pm.ent pmt) ⟨x,rfl,rfl,rfl⟩
  ·repeat' (first|refine xx ?_|(refine k_L ?_;first|(refine k_q ?_;refine a_q rfl (fun m hm=>qt_e (to_q (x:=x) (sep_has hm pmt) (fun e=>absurd e hk)) (by rw[et])) ?_)|(refine k_c ?_;refine a_cq rfl (fun m hm=>codeE_q) ?_))|fail)
   all_goals exact fa_r (fun _ _=>rfl) (Pm.ent pmt) ⟨x,rfl,rfl,rfl⟩
  ·repeat' (first|refine xx ?_|(refine k_L ?_;first|(refine k_q ?_;refine a_q rfl (fun m hm=>qt_e (to_q (x:=x) (sep_has hm pmt) (fun e=>absurd e hk)) (by rw[et])) ?_)|(refine k_c ?_;refine a_cq rfl (fun m hm=>codeE_q) ?_))|fail)
   all_goals exact fa_r (fun _ _=>rfl) (Pm.ent pmt) ⟨x,rfl,rfl,rfl⟩
theorem doE_last{a:Nat}{x:HX}{op n:Int}{ka kb kc:Nat}(h:Sound x.H)(ha:ka≤15)(hc:kc≤1)(ho:op=12):FnA Tryz.prog 84 [eV a,.agg #[.int .i64 op,.int .i64 ka,.int .i64 kb,.int .i64 kc,.int .i64 n]] (hp a x) (fun v As=>∃z:HX,v=an (doCell x.H ⟨op,ka,kb,kc,n⟩).code (doCell x.H ⟨op,ka,kb,kc,n⟩).num∧As=hp a z∧z.H=(doCell x.H ⟨op,ka,kb,kc,n⟩).heap):=by
 subst ho
 have hl:=x.len
 have hnc:x.hdr.nc=x.xs.length:=rfl
 have hnr:x.hdr.nr=x.regs.length:=rfl
 have h16:x.regs.length=16:=h.r1.regs
 obtain⟨w,gw⟩:∃w,x.regs[ka]?=some w:=⟨_,List.getElem?_eq_getElem (by omega)⟩
 have er:x.H.getR ka=w:=getR_at gw
 obtain⟨r1,r2⟩:=getR_ok h (r:=ka) (by omega) (by omega)
 rw[er]at r1 r2
 refine fnA_of (fun h=>fn84 (by simp) h) ?_
 unfold doCell
 dsimp only
 rw[er]
 by_cases hk:w.kind=2
 ·obtain⟨b0,b1,b2,b3⟩:=r2 hk
  obtain⟨j,hj⟩:=Int.eq_ofNat_of_zero_le b0
  have et:x.H.toI w=(j:Int):=by rw[toI_used hk b2,hj]
  have hwf:w.kind=2→0≤w.at_∧w.at_<x.H.cells.length:=fun _=>⟨b0,b1⟩
  have hw0:w.at_.toNat=j:=by omega
  rw[hj]at b1 b2
  obtain⟨y,gy,gc⟩:=HX.at (x:=x) (i:=j) (by omega)
  have gk:=HX.gc gy
  rw[if_neg (fun e=>e hk),hj,Int.toNat_natCast]
  have zH:HX.H {x with xs:=x.xs.set j (y.s_last kc)}=x.H.putL j kc:=by
   unfold Heap.putL
   rw[gk]
   unfold HX.H
   simp only[List.map_set];rfl
  have esw:x.H.shadeW w=x.H.shadeH j:=by unfold Heap.shadeW;rw[if_pos hk,hw0]
  by_cases hc1:(kc:Int)=1
  ·have hkc:kc=1:=by omega
   subst hkc
   rw[if_neg (by omega),if_neg (by omega),if_neg (by omega),if_pos rfl,if_pos hc1]
   repeat' (first|refine xx ?_|(refine k_L ?_;(refine k_q ?_;refine a_q rfl (fun m hm=>qt_e (to_q (x:=x) (sep_has hm pmt) hwf) (by rw[et])) ?_))|fail)
   refine LA.ent (Pm.ent (fin ({x with xs:=x.xs.set j (y.s_last (1:Nat))}:HX) (e1:=by simp[HX.hdr]))) ?_
   refine g_c rfl (shadeH_a (x:={x with xs:=x.xs.set j (y.s_last (1:Nat))}) (i:=j) (by show j<(x.xs.set j _).length;rw[List.length_set]<;>omega) (by have:=h.r1.gray;have:=h.r1.cells;have:=h.r1.room;show x.gray.length≤_;have e:x.H.gray.length=x.gray.length:=rfl;omega)) (fun v' As' hq=>?_)
   obtain⟨u,rfl,hu,_⟩:=hq
   repeat' (first|refine xx ?_|(refine k_L ?_;(refine k_c ?_;refine a_cq rfl (fun m hm=>numE_q) ?_))|fail)
   all_goals exact fa_r (fun _ _=>rfl) (Pm.ent pmt) ⟨u,rfl,rfl,by rw[hu,zH,shadeH_putL (by omega) (by omega),esw]<;>rfl⟩
  ·rw[if_neg (by omega),if_neg (by omega),if_neg (by omega),if_pos rfl,if_neg hc1]
   repeat' (first|refine xx ?_|(refine xy ?_ ?_<;>intro hb<;>try(exfalso;omega))|(refine k_L ?_;first|(refine k_q ?_;refine a_q rfl (fun m hm=>qt_e (to_q (x:=x) (sep_has hm pmt) hwf) (by rw[et])) ?_)|(refine k_c ?_;refine a_cq rfl (fun m hm=>numE_q) ?_))|fail)
   all_goals exact fa_r (fun _ _=>rfl) (Pm.ent (fin ({x with xs:=x.xs.set j (y.s_last kc)}:HX) (e1:=by simp[HX.hdr]))) ⟨_,rfl,rfl,zH⟩
 ·have et:=toI_no (H:=x.H) hk
  rw[if_pos hk]
  repeat' (first|refine xx ?_|(refine k_L ?_;first|(refine k_q ?_;refine a_q rfl (fun m hm=>qt_e (to_q (x:=x) (sep_has hm pmt) (fun e=>absurd e hk)) (by rw[et])) ?_)|(refine k_c ?_;refine a_cq rfl (fun m hm=>codeE_q) ?_))|fail)
  all_goals exact fa_r (fun _ _=>rfl) (Pm.ent pmt) ⟨x,rfl,rfl,rfl⟩
section
variable {a:Nat} {x:HX} {n:Int} {ka kb kc:Nat}
theorem smp_2(h:Sound x.H)(hP:ActP ⟨2,ka,kb,kc,n⟩):FnA Tryz.prog 125 [eV a,.agg #[.int .i64 2,.int .i64 ka,.int .i64 kb,.int .i64 kc,.int .i64 n]] (hp a x) (fun v As=>∃z:HX,v=an 0 0∧As=hp a z∧z.H=x.H.setR ka ⟨1,n,0⟩):=by
 have hQ:=hP
 simp[ActP,aMost,bMost,cMost]at hQ
 have hnr:x.hdr.nr=x.regs.length:=rfl
 have h16:x.regs.length=16:=h.r1.regs
 obtain⟨w,gw⟩:∃w,x.regs[ka]?=some w:=⟨_,List.getElem?_eq_getElem (by omega)⟩
 refine fnA_of (fun h=>fn125 (by simp) h) ?_
 repeat' (first
  |(refine k_L ?_;first|(refine k_l ?_;refine g_l rfl ?_)|(refine k_i ?_;refine g_i rfl rfl ?_)|(refine k_st ?_;first|refine g_st rfl rfl rfl rfl ?_|refine g_sw rfl rfl rfl rfl (Nat.le_of_ble_eq_true rfl) ?_)|(refine k_al ?_;refine a_al ?_)|(refine k_bx ?_;refine a_bx rfl rfl ?_)|(refine k_c ?_;refine a_cq rfl (fun m hm=>numE_q) ?_)|(refine b_w ⟨1,n,0⟩ rfl ?_)|(refine b_p rfl ?_))
  |refine a_n ?_
  |(refine k_V ?_;first|refine v_seq ?_|refine v_reg ?_|refine v_dreg ?_|refine v_bs ?_|refine v_ret ?_|refine v_ct rfl ?_|refine v_cf rfl ?_)
  |refine sk_zero ?_
  |refine sk_succ ?_
  |refine wk_nil ?_
  |refine wk_cons ?_)
 all_goals exact fa_r (fun _ _=>rfl) (Pm.ent (fin ({x with regs:=x.regs.set ka ⟨1,n,0⟩}:HX) (h1:=by simp[HX.hdr]))) ⟨_,rfl,rfl,rfl⟩
theorem smp_3(h:Sound x.H)(hP:ActP ⟨3,ka,kb,kc,n⟩):FnA Tryz.prog 125 [eV a,.agg #[.int .i64 3,.int .i64 ka,.int .i64 kb,.int .i64 kc,.int .i64 n]] (hp a x) (fun v As=>∃z:HX,v=an 0 0∧As=hp a z∧z.H=x.H.setR ka ⟨0,0,0⟩):=by
 have hQ:=hP
 simp[ActP,aMost,bMost,cMost]at hQ
 have hnr:x.hdr.nr=x.regs.length:=rfl
 have h16:x.regs.length=16:=h.r1.regs
 obtain⟨w,gw⟩:∃w,x.regs[ka]?=some w:=⟨_,List.getElem?_eq_getElem (by omega)⟩
 refine fnA_of (fun h=>fn125 (by simp) h) ?_
 repeat' (first
  |(refine k_L ?_;first|(refine k_l ?_;refine g_l rfl ?_)|(refine k_i ?_;refine g_i rfl rfl ?_)|(refine k_st ?_;first|refine g_st rfl rfl rfl rfl ?_|refine g_sw rfl rfl rfl rfl (Nat.le_of_ble_eq_true rfl) ?_)|(refine k_al ?_;refine a_al ?_)|(refine k_bx ?_;refine a_bx rfl rfl ?_)|(refine k_c ?_;refine a_cq rfl (fun m hm=>numE_q) ?_)|(refine b_w ⟨0,0,0⟩ rfl ?_)|(refine b_p rfl ?_))
  |refine a_n ?_
  |(refine k_V ?_;first|refine v_seq ?_|refine v_reg ?_|refine v_dreg ?_|refine v_bs ?_|refine v_ret ?_|refine v_ct rfl ?_|refine v_cf rfl ?_)
  |refine sk_zero ?_
  |refine sk_succ ?_
  |refine wk_nil ?_
  |refine wk_cons ?_)
 all_goals exact fa_r (fun _ _=>rfl) (Pm.ent (fin ({x with regs:=x.regs.set ka ⟨0,0,0⟩}:HX) (h1:=by simp[HX.hdr]))) ⟨_,rfl,rfl,rfl⟩
theorem smp_4(h:Sound x.H)(hP:ActP ⟨4,ka,kb,kc,n⟩):FnA Tryz.prog 125 [eV a,.agg #[.int .i64 4,.int .i64 ka,.int .i64 kb,.int .i64 kc,.int .i64 n]] (hp a x) (fun v As=>∃z:HX,v=an 0 0∧As=hp a z∧z.H=x.H.setR ka (x.H.getR kb)):=by
 have hQ:=hP
 simp[ActP,aMost,bMost,cMost]at hQ
 have hnr:x.hdr.nr=x.regs.length:=rfl
 have h16:x.regs.length=16:=h.r1.regs
 obtain⟨w,gw⟩:∃w,x.regs[ka]?=some w:=⟨_,List.getElem?_eq_getElem (by omega)⟩
 obtain⟨v,gv⟩:∃w,x.regs[kb]?=some w:=⟨_,List.getElem?_eq_getElem (by omega)⟩
 rw[getR_at gv]
 refine fnA_of (fun h=>fn125 (by simp) h) ?_
 repeat' (first|refine xx ?_|(refine k_L ?_;(refine k_c ?_;refine a_cq rfl (fun m hm=>numE_q) ?_))|fail)
 all_goals exact fa_r (fun _ _=>rfl) (Pm.ent (fin ({x with regs:=x.regs.set ka v}:HX) (h1:=by simp[HX.hdr]))) ⟨_,rfl,rfl,rfl⟩
theorem smp_13(h:Sound x.H)(hP:ActP ⟨13,ka,kb,kc,n⟩):FnA Tryz.prog 125 [eV a,.agg #[.int .i64 13,.int .i64 ka,.int .i64 kb,.int .i64 kc,.int .i64 n]] (hp a x) (fun v As=>v=an 0 (if x.H.getR ka=x.H.getR kb then 1 else 0)∧As=hp a x):=by
 have hQ:=hP
 simp[ActP,aMost,bMost,cMost]at hQ
 have hnr:x.hdr.nr=x.regs.length:=rfl
 have h16:x.regs.length=16:=h.r1.regs
 obtain⟨w,gw⟩:∃w,x.regs[ka]?=some w:=⟨_,List.getElem?_eq_getElem (by omega)⟩
 obtain⟨v,gv⟩:∃w,x.regs[kb]?=some w:=⟨_,List.getElem?_eq_getElem (by omega)⟩
 rw[getR_at gv,getR_at gw]
 obtain⟨wk,wn,wat⟩:=w
 obtain⟨vk,vn,vat⟩:=v
 refine fnA_of (fun h=>fn125 (by simp) h) ?_
 repeat' (first|refine xx ?_|(refine k_L ?_;(refine k_c ?_;refine a_cq rfl (fun m hm=>numE_q) ?_))|(refine k_V ?_;(refine v_cond _ rfl (fun hb=>?_) (fun hb=>?_)))|fail)
 ·have e:wk=vk∧wn=vn∧wat=vat:=by simpa using hb
  refine fa_r (fun _ _=>rfl) (Pm.ent pmt) ⟨?_,rfl⟩
  rw[if_pos (by rw[e.1,e.2.1,e.2.2])];rfl
 ·have e:¬(wk=vk∧wn=vn∧wat=vat):=fun e=>by
   obtain⟨rfl,rfl,rfl⟩:=e
   simp at hb
  refine fa_r (fun _ _=>rfl) (Pm.ent pmt) ⟨?_,rfl⟩
  rw[if_neg (fun h=>e (by rw[Word.mk.injEq]at h;exact h))];rfl
theorem smp_14(h:Sound x.H)(hP:ActP ⟨14,ka,kb,kc,n⟩):FnA Tryz.prog 125 [eV a,.agg #[.int .i64 14,.int .i64 ka,.int .i64 kb,.int .i64 kc,.int .i64 n]] (hp a x) (fun v As=>v=an 0 (x.H.getR ka).kind∧As=hp a x):=by
 have hQ:=hP
 simp[ActP,aMost,bMost,cMost]at hQ
 have hnr:x.hdr.nr=x.regs.length:=rfl
 have h16:x.regs.length=16:=h.r1.regs
 obtain⟨w,gw⟩:∃w,x.regs[ka]?=some w:=⟨_,List.getElem?_eq_getElem (by omega)⟩
 rw[getR_at gw]
 refine fnA_of (fun h=>fn125 (by simp) h) ?_
 repeat' (first|(refine k_L ?_;(refine k_l ?_;first|refine a_l rfl (by exact rd_t (rd_h (rd_sl (fun _=>rfl) gw rfl))) ?_|refine g_l rfl ?_))|refine xx ?_|(refine k_L ?_;(refine k_q ?_;refine a_q rfl (fun m hm=>numE_q) ?_))|fail)
 all_goals exact fa_r (fun _ _=>rfl) (Pm.ent pmt) ⟨rfl,rfl⟩
theorem smp_15(h:Sound x.H)(hP:ActP ⟨15,ka,kb,kc,n⟩):FnA Tryz.prog 125 [eV a,.agg #[.int .i64 15,.int .i64 ka,.int .i64 kb,.int .i64 kc,.int .i64 n]] (hp a x) (fun v As=>v=(if(x.H.getR ka).kind=1 then an 0 (x.H.getR ka).num else an 2 0)∧As=hp a x):=by
 have hQ:=hP
 simp[ActP,aMost,bMost,cMost]at hQ
 have hnr:x.hdr.nr=x.regs.length:=rfl
 have h16:x.regs.length=16:=h.r1.regs
 obtain⟨w,gw⟩:∃w,x.regs[ka]?=some w:=⟨_,List.getElem?_eq_getElem (by omega)⟩
 rw[getR_at gw]
 refine fnA_of (fun h=>fn125 (by simp) h) ?_
 by_cases hk:w.kind=1
 ·rw[if_pos hk]
  repeat' (first|(refine k_L ?_;(refine k_l ?_;first|refine a_l rfl (by exact rd_t (rd_h (rd_sl (fun _=>rfl) gw rfl))) ?_|refine g_l rfl ?_))|refine xx ?_|(refine xy ?_ ?_<;>intro hb<;>try(exfalso;omega))|fail)
  all_goals exact fa_r (fun _ _=>rfl) (Pm.ent pmt) ⟨rfl,rfl⟩
 ·rw[if_neg hk]
  repeat' (first|(refine k_L ?_;(refine k_l ?_;first|refine a_l rfl (by exact rd_t (rd_h (rd_sl (fun _=>rfl) gw rfl))) ?_|refine g_l rfl ?_))|refine xx ?_|(refine xy ?_ ?_<;>intro hb<;>try(exfalso;omega))|(refine k_L ?_;(refine k_c ?_;refine a_cq rfl (fun m hm=>codeE_q) ?_))|fail)
  all_goals exact fa_r (fun _ _=>rfl) (Pm.ent pmt) ⟨rfl,rfl⟩
end
section
variable {a:Nat} {x:HX} {n:Int} {ka kb kc:Nat}
theorem smp_18(h:Sound x.H)(hP:ActP ⟨18,ka,kb,kc,n⟩):FnA Tryz.prog 125 [eV a,.agg #[.int .i64 18,.int .i64 ka,.int .i64 kb,.int .i64 kc,.int .i64 n]] (hp a x) (fun v As=>∃z:HX,v=an 0 (d2 x.H x.H.cells.length:Nat)∧As=hp a z∧z.H=x.H.settleH):=by
 refine fnA_of (fun h=>fn125 (by simp) h) ?_
 repeat' (first|refine xx ?_|(refine k_L ?_;first|(refine k_c ?_;refine a_cq rfl (fun m hm=>numE_q) ?_)|(refine g_c rfl (settle_a (x:=x) h) (fun v As' hq=>?_);obtain⟨z,rfl,rfl,hz⟩:=hq))|fail)
 all_goals exact fa_r (fun _ _=>rfl) (Pm.ent pmt) ⟨z,rfl,rfl,hz⟩
theorem smp_19(h:Sound x.H)(hP:ActP ⟨19,ka,kb,kc,n⟩):FnA Tryz.prog 125 [eV a,.agg #[.int .i64 19,.int .i64 ka,.int .i64 kb,.int .i64 kc,.int .i64 n]] (hp a x) (fun v As=>∃z:HX,v=an (doDue x.H ⟨19,ka,kb,kc,n⟩).code (doDue x.H ⟨19,ka,kb,kc,n⟩).num∧As=hp a z∧z.H=(doDue x.H ⟨19,ka,kb,kc,n⟩).heap):=by
 have hQ:=hP
 simp[ActP,aMost,bMost,cMost]at hQ
 have hnr:x.hdr.nr=x.regs.length:=rfl
 have h16:x.regs.length=16:=h.r1.regs
 obtain⟨w,gw⟩:∃w,x.regs[ka]?=some w:=⟨_,List.getElem?_eq_getElem (by omega)⟩
 have hl:=x.len
 have hnc:x.hdr.nc=x.xs.length:=rfl
 unfold doDue
 dsimp only
 refine fnA_of (fun h=>fn125 (by simp) h) ?_
 by_cases c:ndG x.H x.H.cells.length<0
 ·rw[if_pos c]
  repeat' (first
   |(refine k_L ?_;first|(refine k_l ?_;refine g_l rfl ?_)|(refine k_i ?_;refine g_i rfl rfl ?_)|(refine k_st ?_;first|refine g_st rfl rfl rfl rfl ?_|refine g_sw rfl rfl rfl rfl (Nat.le_of_ble_eq_true rfl) ?_)|(refine k_al ?_;refine a_al ?_)|(refine k_bx ?_;refine a_bx rfl rfl ?_)|(refine k_c ?_;first|refine a_cq rfl (fun m hm=>numE_q) ?_|refine a_cq rfl (fun m hm=>nextDueLoop_q (x:=x) (sep_has hm pmt) h.r2) ?_)|(refine b_w ⟨0,0,0⟩ rfl ?_)|(refine b_p rfl ?_))
   |refine a_n ?_
   |(refine k_V ?_;first|refine v_seq ?_|refine v_reg ?_|refine v_dreg ?_|refine v_bs ?_|refine v_ret ?_|refine v_ct rfl ?_|refine v_cf rfl ?_|(refine v_cd rfl (fun hb=>?_) (fun hb=>?_)<;>try(exfalso;omega)))
   |refine s_r ?_
   |refine b_r ?_
   |refine sk_zero ?_
   |refine sk_succ ?_
   |refine wk_nil ?_
   |refine wk_cons ?_)
  all_goals exact fa_r (fun _ _=>rfl) (Pm.ent (fin ({x with regs:=x.regs.set ka ⟨0,0,0⟩}:HX) (h1:=by simp[HX.hdr]))) ⟨_,rfl,rfl,rfl⟩
 ·rw[if_neg c]
  obtain⟨j,hj⟩:=Int.eq_ofNat_of_zero_le (show 0≤ndG x.H x.H.cells.length by omega)
  have hjl:=(ndG_lt x.H x.H.cells.length).2
  rw[hj]at hjl⊢
  obtain⟨y,gy,gc⟩:=HX.at (x:=x) (i:=j) (by omega)
  have gk:=HX.gc gy
  repeat' (first
   |(refine k_L ?_;first|(refine k_l ?_;refine g_l rfl ?_)|(refine k_i ?_;refine g_i rfl rfl ?_)|(refine k_st ?_;first|refine g_st rfl rfl rfl rfl ?_|refine g_sw rfl rfl rfl rfl (Nat.le_of_ble_eq_true rfl) ?_)|(refine k_al ?_;refine a_al ?_)|(refine k_bx ?_;refine a_bx rfl rfl ?_)|(refine k_c ?_;first|refine a_cq rfl (fun m hm=>numE_q) ?_|refine a_cq rfl (fun m hm=>qt_e (nextDueLoop_q (x:=x) (sep_has hm pmt) h.r2) (by rw[hj])) ?_)|(refine b_w ⟨2,0,j⟩ rfl ?_)|(refine b_p rfl ?_))
   |refine a_n ?_
   |(refine k_V ?_;first|refine v_seq ?_|refine v_reg ?_|refine v_dreg ?_|refine v_bs ?_|refine v_ret ?_|refine v_skip ?_|refine v_ct rfl ?_|refine v_cf rfl ?_)
   |refine s_r ?_
   |refine b_r ?_
   |refine sk_zero ?_
   |refine sk_succ ?_
   |refine wk_nil ?_
   |refine wk_cons ?_)
  refine fa_r (fun _ _=>rfl) (Pm.ent (fin ({x with xs:=x.xs.set j (y.s_last 3),regs:=x.regs.set ka ⟨2,0,j⟩}:HX) (h1:=by simp[HX.hdr]) (h2:=by simp[HX.hdr]) (e1:=by simp[HX.hdr]))) ⟨_,rfl,rfl,?_⟩
  unfold Heap.putL Heap.setR
  rw[Int.toNat_natCast,gk]
  unfold HX.H
  simp only[List.map_set];rfl
theorem smp_20(h:Sound x.H)(hP:ActP ⟨20,ka,kb,kc,n⟩):FnA Tryz.prog 125 [eV a,.agg #[.int .i64 20,.int .i64 ka,.int .i64 kb,.int .i64 kc,.int .i64 n]] (hp a x) (fun v As=>v=an 0 (sumT x.H (heldL x.H) x.H.cells.length)∧As=hp a x):=by
 refine fna_rd fun m hm=>?_
 have hh:Has m (hp a x):=⟨m,Mem.le_refl _,hm⟩
 refine fnA_of (fun h=>fn125 (by simp) h) ?_
 repeat' (first|refine xx ?_|fail)
 refine v_hreg (Gs:=[ro m]) [] pmt ?_
 repeat' (first
  |(refine k_L ?_;first|refine a_p rfl ?_|(refine k_st ?_;refine g_sw rfl rfl rfl rfl (Nat.le_of_ble_eq_true rfl) ?_)|(refine k_c ?_;refine a_cq rfl (fun m hm=>numE_q) ?_)|(refine g_c rfl (holds_a (x:=x) hh h.r1 h.r2 h.r4) (fun v As' hq=>?_);obtain⟨sd,rfl,rfl⟩:=hq)|(refine g_c rfl (sum_a (x:=x) (L:=heldL x.H) (sd:=sd) hh h.r1 h.r2 (by rw[heldL_len,x.len])) (fun v As' hq=>?_);obtain⟨rfl,rfl⟩:=hq))
  |refine a_n ?_
  |(refine k_V ?_;refine v_ret ?_)
  |refine s_r ?_
  |refine b_r ?_
  |refine sk_zero ?_
  |refine sk_succ ?_
  |refine wk_nil ?_
  |refine wk_cons ?_
  |refine t_a ?_ t_n
  |refine t_f ?_ t_n
  |refine t_d ?_
  |refine kl_1 rfl ?_
  |refine kl_0 ?_)
 all_goals exact fa_r (As':=[ro m]) (fun _ _=>rfl) (Pm.ent pmt) ⟨by rw[x.len];rfl,rfl⟩
theorem smp_21(h:Sound x.H)(hP:ActP ⟨21,ka,kb,kc,n⟩):FnA Tryz.prog 125 [eV a,.agg #[.int .i64 21,.int .i64 ka,.int .i64 kb,.int .i64 kc,.int .i64 n]] (hp a x) (fun v As=>v=an 0 (sumT x.H (reachL x.H) x.H.cells.length)∧As=hp a x):=by
 refine fna_rd fun m hm=>?_
 have hh:Has m (hp a x):=⟨m,Mem.le_refl _,hm⟩
 refine fnA_of (fun h=>fn125 (by simp) h) ?_
 repeat' (first|refine xx ?_|fail)
 refine v_hreg (Gs:=[ro m]) [] pmt ?_
 repeat' (first
  |(refine k_L ?_;first|refine a_p rfl ?_|(refine k_st ?_;refine g_sw rfl rfl rfl rfl (Nat.le_of_ble_eq_true rfl) ?_)|(refine k_c ?_;refine a_cq rfl (fun m hm=>numE_q) ?_)|(refine g_c rfl (reach_a (x:=x) hh h.r1 h.r2 h.r4) (fun v As' hq=>?_);obtain⟨sd,rfl,rfl⟩:=hq)|(refine g_c rfl (sum_a (x:=x) (L:=reachL x.H) (sd:=sd) hh h.r1 h.r2 (by rw[reachL_len,x.len])) (fun v As' hq=>?_);obtain⟨rfl,rfl⟩:=hq))
  |refine a_n ?_
  |(refine k_V ?_;refine v_ret ?_)
  |refine s_r ?_
  |refine b_r ?_
  |refine sk_zero ?_
  |refine sk_succ ?_
  |refine wk_nil ?_
  |refine wk_cons ?_
  |refine t_a ?_ t_n
  |refine t_f ?_ t_n
  |refine t_d ?_
  |refine kl_1 rfl ?_
  |refine kl_0 ?_)
 all_goals exact fa_r (As':=[ro m]) (fun _ _=>rfl) (Pm.ent pmt) ⟨by rw[x.len];rfl,rfl⟩
theorem smp_22(h:Sound x.H)(hP:ActP ⟨22,ka,kb,kc,n⟩):FnA Tryz.prog 125 [eV a,.agg #[.int .i64 22,.int .i64 ka,.int .i64 kb,.int .i64 kc,.int .i64 n]] (hp a x) (fun v As=>∃z:HX,v=an 0 0∧As=hp a z∧z.H=x.H.stepH kc):=by
 have hQ:=hP
 simp[ActP,aMost,bMost,cMost]at hQ
 refine fnA_of (fun h=>fn125 (by simp) h) ?_
 by_cases c:kc=0
 ·subst c
  have e:x.H.stepH (0:Nat)=x.H:=by unfold Heap.stepH;rfl
  rw[e]
  repeat' (first|refine xx ?_|(refine k_L ?_;(refine k_c ?_;refine a_cq rfl (fun m hm=>numE_q) ?_))|fail)
  all_goals exact fa_r (fun _ _=>rfl) (Pm.ent pmt) ⟨x,rfl,rfl,rfl⟩
 ·have hn:(kc:Int)≠0:=by omega
  have pb:x.begin.H=x.H.beginH:=begin_H
  have hsb:Sound x.begin.H:=by
   rw[pb];unfold Heap.beginH
   split
   ·exact begin_sound h ‹_›
   ·exact h
  repeat' (first|refine xx ?_|(refine xy ?_ ?_<;>intro hb<;>try(exfalso;omega))|(refine k_L ?_;first|(refine k_c ?_;refine a_cq rfl (fun m hm=>numE_q) ?_)|(refine g_c rfl (begin_a (x:=x)) (fun v As' hq=>?_);subst hq)|(refine g_c rfl (step_a (x:=x.begin) (n:=(kc:Int)) hsb (by omega)) (fun v As' hq=>?_);obtain⟨z,rfl,rfl,hz⟩:=hq))|fail)
  all_goals first
   |(exfalso;omega)
   |exact fa_r (fun _ _=>rfl) (Pm.ent pmt) ⟨z,rfl,rfl,by rw[hz,pb];unfold Heap.stepH stepN;rw[if_neg hn,if_neg hn]⟩
theorem smp_23(h:Sound x.H)(hP:ActP ⟨23,ka,kb,kc,n⟩):FnA Tryz.prog 125 [eV a,.agg #[.int .i64 23,.int .i64 ka,.int .i64 kb,.int .i64 kc,.int .i64 n]] (hp a x) (fun v As=>∃z:HX,v=an 0 0∧As=hp a z∧z.H={x.H with per:=kb,start:=kc}):=by
 refine fnA_of (fun h=>fn125 (by simp) h) ?_
 repeat' (first|refine xx ?_|fail)
 refine v_hreg (Gs:=hp a x) [] pmt ?_
 repeat' (first
  |(refine k_L ?_;first|refine a_p rfl ?_|(refine k_st ?_;first|refine g_st rfl rfl rfl rfl ?_|refine g_sw rfl rfl rfl rfl (Nat.le_of_ble_eq_true rfl) ?_)|(refine k_c ?_;refine a_cq rfl (fun m hm=>numE_q) ?_))
  |refine a_n ?_
  |(refine k_V ?_;first|refine v_seq ?_|refine v_reg ?_|refine v_ret ?_)
  |refine sk_zero ?_
  |refine sk_succ ?_
  |refine wk_nil ?_
  |refine wk_cons ?_
  |refine t_a ?_ t_n
  |refine t_f ?_ t_n
  |refine t_d ?_
  |refine kl_1 rfl ?_
  |refine kl_0 ?_)
 all_goals exact fa_r (fun _ _=>rfl) (Pm.ent (fin ({x with per:=kb,start:=kc}:HX))) ⟨_,rfl,rfl,rfl⟩
theorem smp_24(h:Sound x.H)(hP:ActP ⟨24,ka,kb,kc,n⟩):FnA Tryz.prog 125 [eV a,.agg #[.int .i64 24,.int .i64 ka,.int .i64 kb,.int .i64 kc,.int .i64 n]] (hp a x) (fun v As=>∃z:HX,v=an 0 0∧As=hp a z∧z.H=x.H.roundH):=by
 refine fnA_of (fun h=>fn125 (by simp) h) ?_
 repeat' (first|refine xx ?_|(refine k_L ?_;first|(refine k_c ?_;refine a_cq rfl (fun m hm=>numE_q) ?_)|(refine g_c rfl (round_a (x:=x) h) (fun v As' hq=>?_);obtain⟨z,rfl,hz⟩:=hq))|fail)
 all_goals exact fa_r (fun _ _=>rfl) (Pm.ent pmt) ⟨z,rfl,rfl,hz⟩
end
def outE(a:Nat)(o:Out):Value→List Asr→Prop:=fun v As=>∃z:HX,v=an o.code o.num∧As=hp a z∧z.H=o.heap
section
variable {a:Nat} {x:HX} {op n:Int} {ka kb kc:Nat} {o:Out}
theorem smp_1(h:Sound x.H)(ha:ka≤15)(hb:kb≤255)(hc:kc≤200):FnA Tryz.prog 125 [eV a,.agg #[.int .i64 1,.int .i64 ka,.int .i64 kb,.int .i64 kc,.int .i64 n]] (hp a x) (outE a (doNew x.H ⟨1,ka,kb,kc,n⟩)):=by
 refine fnA_of (fun h=>fn125 (by simp) h) ?_
 repeat' (first|refine xx ?_|(refine k_L ?_;(refine g_c rfl (make_a (x:=x) (op:=1) (n:=n) h ha hb hc) (fun v As' hq=>?_);obtain⟨z,rfl,rfl,hz⟩:=hq))|fail)
 exact fa_r (fun _ _=>rfl) (Pm.ent pmt) ⟨z,rfl,rfl,hz⟩
theorem doS(hop:¬(5≤op∧op≤12)∧op≠16∧op≠17)(hs:FnA Tryz.prog 125 [eV a,.agg #[.int .i64 op,.int .i64 ka,.int .i64 kb,.int .i64 kc,.int .i64 n]] (hp a x) (outE a o)):
 FnA Tryz.prog 84 [eV a,.agg #[.int .i64 op,.int .i64 ka,.int .i64 kb,.int .i64 kc,.int .i64 n]] (hp a x) (outE a o):=by
 refine fnA_of (fun h=>fn84 (by simp) h) ?_
 repeat' (first|refine xx ?_|(refine xy ?_ ?_<;>intro hb<;>try(exfalso;omega))|(refine k_L ?_;(refine g_c rfl hs (fun v As' hq=>?_);obtain⟨z,rfl,rfl,hz⟩:=hq))|fail)
 all_goals exact fa_r (fun _ _=>rfl) (Pm.ent pmt) ⟨z,rfl,rfl,hz⟩
end
theorem doE_a{a:Nat}{x:HX}{op n:Int}{ka kb kc:Nat}(h:Sound x.H)(hP:ActP ⟨op,ka,kb,kc,n⟩):FnA Tryz.prog 84 [eV a,.agg #[.int .i64 op,.int .i64 ka,.int .i64 kb,.int .i64 kc,.int .i64 n]] (hp a x) (outE a (doA x.H ⟨op,ka,kb,kc,n⟩)):=by
 have hP0:=hP
 obtain⟨⟨h1,h2⟩,h3,⟨h4,h4'⟩,⟨h5,h5'⟩,h6,h6'⟩:=hP0
 dsimp only at h1 h2 h4 h5 h6 h4' h5' h6'
 have ka15:ka≤15:=by have:=aMost_le op;omega
 have ho:op=1∨op=2∨op=3∨op=4∨op=5∨op=6∨op=7∨op=8∨op=9∨op=10∨op=11∨op=12∨op=13∨op=14∨op=15∨op=16∨op=17∨op=18∨op=19∨op=20∨op=21∨op=22∨op=23∨op=24:=by omega
 rcases ho with rfl|rfl|rfl|rfl|rfl|rfl|rfl|rfl|rfl|rfl|rfl|rfl|rfl|rfl|rfl|rfl|rfl|rfl|rfl|rfl|rfl|rfl|rfl|rfl
 ·simp[bMost,cMost]at h5' h6'
  exact doS (by omega) (smp_1 h ka15 (by omega) (by omega))
 ·exact doS (by omega) (smp_2 h hP)
 ·exact doS (by omega) (smp_3 h hP)
 ·exact doS (by omega) (smp_4 h hP)
 ·simp[bMost,cMost]at h5' h6'
  exact doE_rd h ka15 (by omega) (by omega)
 ·simp[bMost,cMost]at h5' h6'
  exact doE_rd h ka15 (by omega) (by omega)
 ·simp[bMost,cMost]at h5' h6'
  exact doE_wr h ka15 (by omega) (by omega)
 ·simp[bMost,cMost]at h5' h6'
  exact doE_wr h ka15 (by omega) (by omega)
 ·simp[bMost,cMost]at h5' h6'
  exact doE_cell h ka15 (by omega) (by omega)
 ·simp[bMost,cMost]at h5' h6'
  exact doE_cell h ka15 (by omega) (by omega)
 ·simp[bMost,cMost]at h5' h6'
  exact doE_cell h ka15 (by omega) (by omega)
 ·simp[bMost,cMost]at h5' h6'
  exact doE_last h ka15 (by omega) rfl
 ·exact doS (by omega) ((smp_13 h hP).mono fun v As hq=>⟨x,hq.1,hq.2,rfl⟩)
 ·exact doS (by omega) ((smp_14 h hP).mono fun v As hq=>⟨x,hq.1,hq.2,rfl⟩)
 ·refine doS (by omega) ((smp_15 h hP).mono fun v As hq=>⟨x,?_,hq.2,?_⟩)
  ·rw[hq.1]
   show _=an (if(x.H.getR ka).kind=1 then(⟨x.H,0,(x.H.getR ka).num⟩:Out)else⟨x.H,2,0⟩).code (if(x.H.getR ka).kind=1 then(⟨x.H,0,(x.H.getR ka).num⟩:Out)else⟨x.H,2,0⟩).num
   split<;>rfl
  ·show x.H=(if(x.H.getR ka).kind=1 then(⟨x.H,0,(x.H.getR ka).num⟩:Out)else⟨x.H,2,0⟩).heap
   split<;>rfl
 ·simp[bMost,cMost]at h5' h6'
  exact doE_cell h ka15 (by omega) (by omega)
 ·simp[bMost,cMost]at h5' h6'
  exact doE_cell h ka15 (by omega) (by omega)
 ·exact doS (by omega) (smp_18 h hP)
 ·exact doS (by omega) (smp_19 h hP)
 ·exact doS (by omega) ((smp_20 h hP).mono fun v As hq=>⟨x,hq.1,hq.2,rfl⟩)
 ·exact doS (by omega) ((smp_21 h hP).mono fun v As hq=>⟨x,hq.1,hq.2,rfl⟩)
 ·exact doS (by omega) (smp_22 h hP)
 ·exact doS (by omega) (smp_23 h hP)
 ·exact doS (by omega) (smp_24 h hP)
theorem act_a{m:Mem}{a:Nat}{x:HX}{b:Act}(hf:Frm m)(h:Sound x.H):FnA Tryz.prog 45 [eV a,actV b] (hp a x++[ro m]) (fun v As=>∃z:HX,v=an (actA x.H b).code (actA x.H b).num∧As=hp a z++[ro m]∧z.H=(actA x.H b).heap):=by
 obtain⟨op,aa,ab,ac,n⟩:=b
 refine fnA_of (fun h=>fn45 (by simp) h) ?_
 by_cases hP:ActP ⟨op,aa,ab,ac,n⟩
 ·have e:actA x.H ⟨op,aa,ab,ac,n⟩=doA x.H ⟨op,aa,ab,ac,n⟩:=by unfold actA;rw[if_pos hP]
  rw[e]
  have hP0:=hP
  obtain⟨_,_,⟨h4,_⟩,⟨h5,_⟩,h6,_⟩:=hP0
  dsimp only at h4 h5 h6
  obtain⟨ka,rfl⟩:=Int.eq_ofNat_of_zero_le h4
  obtain⟨kb,rfl⟩:=Int.eq_ofNat_of_zero_le h5
  obtain⟨kc,rfl⟩:=Int.eq_ofNat_of_zero_le h6
  repeat' (first|refine xx ?_|(refine k_L ?_;first|(refine k_c ?_;refine a_cq rfl (fun m hm=>qt_e (implActOk_q (a:=⟨op,ka,kb,kc,n⟩) (hf.le (ro_of hm pmt))) (congrArg Value.bool (decide_eq_true hP))) ?_)|(refine g_c rfl (doE_a (x:=x) (op:=op) (n:=n) (ka:=ka) (kb:=kb) (kc:=kc) h hP) (fun v As' hq=>?_);obtain⟨z,rfl,rfl,hz⟩:=hq))|fail)
  all_goals exact fa_r (As':=hp a z++[ro m]) (fun _ _=>rfl) (Pm.ent pmt) ⟨z,rfl,rfl,hz⟩
 ·have e:actA x.H ⟨op,aa,ab,ac,n⟩=⟨x.H,1,0⟩:=by unfold actA;rw[if_neg hP]
  rw[e]
  repeat' (first|refine xx ?_|(refine k_L ?_;(refine k_c ?_;first|refine a_cq rfl (fun m hm=>codeE_q) ?_|refine a_cq rfl (fun m hm=>qt_e (implActOk_q (a:=⟨op,aa,ab,ac,n⟩) (hf.le (ro_of hm pmt))) (congrArg Value.bool (decide_eq_false hP))) ?_))|fail)
  all_goals exact fa_r (As':=hp a x++[ro m]) (fun _ _=>rfl) (Pm.ent pmt) ⟨x,rfl,rfl,rfl⟩
noncomputable def Heap.doD(H:Heap)(b:Act):Out:=if okH H=0 then actA H b else⟨Heap.nil,0,0⟩
theorem implDo_a{m:Mem}{x:HX}{e:Act}(hf:Frm m)(h:Has m x.body):FnA Tryz.prog 18 [x.v,actV e] [ro m] (outAN2 m (x.H.doD e).heap (x.H.doD e).code (x.H.doD e).num):=by
 unfold Heap.doD
 refine fnA_of (fun h=>fn18 (by simp) h) ?_
 by_cases hS:okH x.H=0
 ·have hs1:=(okH_sound x.H).1 hS
  rw[if_pos hS]
  repeat' (first|refine xx ?_|(refine k_L ?_;first|(refine k_c ?_;refine a_cq rfl (fun m hm=>qt_e (sound_q (x:=x) (has_g h hm)) (congrArg Value.bool (decide_eq_true hS))) ?_)|(refine g_c rfl (twin_a h hs1.r1 hs1.r2) (fun v As' hq=>?_);obtain⟨b,z,rfl,rfl,hz⟩:=hq))|fail)
  refine g_c rfl (act_a (x:=z) (b:=e) hf (by rw[hz];exact hs1)) (fun v As' hq=>?_)
  obtain⟨u,rfl,rfl,hu⟩:=hq
  rw[hz]at hu⊢
  generalize actA x.H e=o at*
  repeat' (first
   |(refine k_L ?_;first|(refine k_st ?_;refine g_sw rfl rfl rfl rfl (Nat.le_of_ble_eq_true rfl) ?_)|(refine k_al ?_;refine a_al ?_))
   |refine a_n ?_
   |(refine k_V ?_;first|refine v_seq ?_|refine v_dreg ?_)
   |refine sk_zero ?_
   |refine sk_succ ?_
   |refine wk_nil ?_
   |refine wk_cons ?_)
  refine a_p rfl ?_
  refine a_p rfl ?_
  repeat' (first
   |(refine k_L ?_;(refine k_ls ?_;refine g_ls rfl ?_))
   |refine a_n ?_)
  refine a_p (sv:=.v (an o.code o.num)) rfl ?_
  refine a_p (sv:=.v (u.vn2 o.code o.num)) rfl ?_
  repeat' (first|refine xx ?_|fail)
  exact fa_r (As':=u.body++[ro m]) (fun _ _=>rfl) (Pm.ent pmt) ⟨_,⟨u,rfl,hu,rfl⟩,rfl⟩
 ·rw[if_neg hS]
  repeat' (first|refine xx ?_|(refine k_L ?_;(refine k_c ?_;refine a_cq rfl (fun m hm=>qt_e (sound_q (x:=x) (has_g h hm)) (congrArg Value.bool (decide_eq_false hS))) ?_))|fail)
  exact fa_r (As':=HX.nil.body++[ro m]) (fun _ _=>rfl) nil_ent ⟨_,⟨HX.nil,rfl,rfl,rfl⟩,rfl⟩
theorem specDo_a{m:Mem}{x:HX}{e:Act}(h:Has m x.body):FnA Tryz.prog 15 [x.v,actV e] [ro m] (outAN2 m (x.H.doD e).heap (x.H.doD e).code (x.H.doD e).num):=by
 unfold Heap.doD
 refine fnA_of (fun h=>fn15 (by simp) h) ?_
 by_cases hS:okH x.H=0
 ·have hs1:=(okH_sound x.H).1 hS
  rw[if_pos hS]
  repeat' (first|refine xx ?_|(refine k_L ?_;first|(refine k_c ?_;refine a_cq rfl (fun m hm=>qt_e (specHeapOk_q (x:=x) (has_g h hm)) (by rw[hS])) ?_)|(refine g_c rfl (l1copy_a h hs1.r1 hs1.r2) (fun v As' hq=>?_);obtain⟨b,z,rfl,rfl,hz⟩:=hq))|fail)
  refine g_c rfl (l5do_a (x:=z) (b:=e) (by rw[hz];exact hs1)) (fun v As' hq=>?_)
  obtain⟨u,rfl,rfl,hu⟩:=hq
  rw[hz]at hu⊢
  generalize actA x.H e=o at*
  repeat' (first
   |(refine k_L ?_;first|(refine k_st ?_;refine g_sw rfl rfl rfl rfl (Nat.le_of_ble_eq_true rfl) ?_)|(refine k_al ?_;refine a_al ?_))
   |refine a_n ?_
   |(refine k_V ?_;first|refine v_seq ?_|refine v_dreg ?_)
   |refine sk_zero ?_
   |refine sk_succ ?_
   |refine wk_nil ?_
   |refine wk_cons ?_)
  refine a_p rfl ?_
  refine a_p rfl ?_
  repeat' (first
   |(refine k_L ?_;(refine k_ls ?_;refine g_ls rfl ?_))
   |refine a_n ?_)
  refine a_p (sv:=.v (an o.code o.num)) rfl ?_
  refine a_p (sv:=.v (u.vn2 o.code o.num)) rfl ?_
  repeat' (first|refine xx ?_|fail)
  exact fa_r (As':=u.body++[ro m]) (fun _ _=>rfl) (Pm.ent pmt) ⟨_,⟨u,rfl,hu,rfl⟩,rfl⟩
 ·rw[if_neg hS]
  repeat' (first|refine xx ?_|(refine xy ?_ ?_<;>intro hb<;>try(exfalso;omega))|(refine k_L ?_;(refine k_c ?_;refine a_cq rfl (fun m hm=>specHeapOk_q (x:=x) (has_g h hm)) ?_))|fail)
  exact fa_r (As':=HX.nil.body++[ro m]) (fun _ _=>rfl) nil_ent ⟨_,⟨HX.nil,rfl,rfl,rfl⟩,rfl⟩
theorem eqAns_t{m:Mem}{c n:Int}:Qt Tryz.prog 46 [an c n,an c n] m (.bool true):=by
 refine qt_of (fnA_of (fun h=>fn46 (by simp) h) ?_)
 repeat' (first|refine xx ?_|(refine xy ?_ ?_<;>intro hb<;>try(exfalso;omega))|fail)
 exact fa_q (by simp) (fun _ _=>rfl) rfl
theorem doD_ok(H:Heap)(e:Act):OkK (H.doD e).heap:=by
 unfold Heap.doD
 split
 ·rename_i h
  exact .inl (actA_sound ((okH_sound H).1 h))
 ·exact .inr rfl
theorem eqDone_q{x y:HX}{n k n2 k2:Int}{m:Mem}(hx:Has m x.body)(hy:Has m y.body)(e:x.H=y.H)(en:n=k)(en2:n2=k2):Qt Tryz.prog 19 [x.vn2 n n2,y.vn2 k k2] m (.bool true):=by
 refine qt_of (fnA_of (fun h=>fn19 (by simp) h) ?_)
 subst en en2
 repeat' (first|refine xx ?_|(refine k_L ?_;(refine k_c ?_;first|refine a_cq rfl (fun m hm=>qt_e (eqHeap_q (x:=x.hs) (y:=y.hs) (has_g hx hm).b (has_g hy hm).b) (congrArg Value.bool (decide_eq_true e))) ?_|refine a_cq rfl (fun m hm=>eqAns_t (c:=n) (n:=n2)) ?_))|fail)
 all_goals exact fa_q (by simp) (fun _ _=>rfl) rfl
theorem markDone_a{x:HX}{n n2 k:Int}(h0:0≤k)(hb:endH k x.H≤4611686018427387904):FnA Tryz.prog 22 [x.vn2 n n2,.int .i64 k] x.body (fun v As=>v=.int .i64 (endH k x.H)∧∃y:HX,y.hs=gH k x.hs∧As=y.body):=by
 refine fnA_of (fun h=>fn22 (by simp) h) ?_
 repeat' (first|refine xx ?_|fail)
 refine g_c rfl (markHeap_a (x:=x) (k:=k) h0 hb) (fun v As' hq=>?_)
 obtain⟨rfl,gn,hgn,rfl⟩:=hq
 repeat' (first|refine xx ?_|fail)
 exact fa_r (As':=gn.body) (fun _ _=>rfl) (Pm.ent pmt) ⟨rfl,gn,hgn,rfl⟩
theorem heldDone_q{x y:HX}{n n2 k:Int}{m:Mem}(h0:0≤k)(hb:0≤endH k x.H∧endH k x.H≤4611686018427387904)(hy:y.hs=gH k x.hs)(h:Has m y.body):Qt Tryz.prog 23 [x.vn2 n n2,.int .i64 k] m (.int .i64 (endH k x.H)):=by
 refine qt_of (fnA_of (fun h=>fn23 (by simp) h) ?_)
 repeat' (first|refine xx ?_|(refine xy ?_ ?_<;>intro hb<;>try(exfalso;omega))|(refine k_L ?_;(refine k_c ?_;refine a_cq rfl (fun m hm=>heldHeap_a (x:=x) (k:=k) h0 hb.2 hy (has_g h hm)) ?_))|fail)
 exact fa_q (by simp) (fun _ _=>rfl) rfl
theorem fnExactDo_q{M:Mem}{x:HS}{e:Act}(hx:RHVR M x)(hf:Frm M):Qt Tryz.prog 4 [x.v,actV e] M (.bool true):=by
 refine qt_of (fnA_of (fun h=>fn4 (by simp) h) ?_)
 repeat' (first|refine xx ?_|(refine xy ?_ ?_<;>intro hb<;>try(exfalso;omega))|(refine k_L ?_;(refine k_c ?_;refine a_cq rfl (fun m hm=>szHeap_q (by omega) (by omega) (hx.le (ro_of hm pmt))) ?_))|fail)
 ·exact fa_q (by simp) (fun _ _=>rfl) rfl
 have hb':x.H.bulk≤1048576:=by
  by_cases h:x.H.bulk≤1048576
  ·exact h
  ·rw[if_neg h]at*;omega
 have hpn:=pairsN_nonneg x.H.cells
 have hb2:=hb'
 unfold Heap.bulk at hb2
 obtain⟨k1,k2⟩:=(doD_ok x.H e).fin
 refine g_c rfl (toHeap_a hb' hx) (fun v As' hq=>?_)
 obtain⟨y,rfl,hy,rfl⟩:=hq
 repeat' (first|refine xx ?_|(refine k_L ?_;(refine k_c ?_;refine a_cq rfl (fun m hm=>toAct_q (a:=e)) ?_))|fail)
 refine g_c rfl (fna_ro (q:=fun v E=>∃u:HX,v=u.vn2 (y.H.doD e).code (y.H.doD e).num∧u.H=(y.H.doD e).heap∧E=u.body) (fun m hm=>specDo_a (x:=y) (e:=e) (has_star hm))) (fun v As' hq=>?_)
 obtain⟨_,⟨ws,rfl,hw,rfl⟩,rfl⟩:=hq
 rw[hy]at hw⊢
 repeat' (first|refine xx ?_|fail)
 refine g_c rfl (toHeap_a hb' hx) (fun v As' hq=>?_)
 obtain⟨z,rfl,hz,rfl⟩:=hq
 repeat' (first|refine xx ?_|(refine k_L ?_;(refine k_c ?_;refine a_cq rfl (fun m hm=>toAct_q (a:=e)) ?_))|fail)
 refine g_c rfl (fna_ro (Bs:=z.body++[ro M]) (q:=fun v E=>∃u:HX,v=u.vn2 (z.H.doD e).code (z.H.doD e).num∧u.H=(z.H.doD e).heap∧E=u.body) (fun m hm=>implDo_a (x:=z) (e:=e) (hf.le (ro_of hm pmt)) (has_p (Bs:=z.body) hm))) (fun v As' hq=>?_)
 obtain⟨_,⟨gs,rfl,hg,rfl⟩,rfl⟩:=hq
 rw[hz]at hg⊢
 repeat' (first|refine xx ?_|(refine k_L ?_;(refine k_c ?_;refine a_cq rfl (fun m hm=>eqDone_q (x:=gs) (y:=ws) (has_p (Bs:=gs.body) hm) (has_p (Bs:=ws.body) hm) (hg.trans hw.symm) rfl rfl) ?_))|fail)
 refine g_c rfl (toHeap_a hb' hx) (fun v As' hq=>?_)
 obtain⟨u,rfl,hu,rfl⟩:=hq
 repeat' (first|refine xx ?_|(refine k_L ?_;(refine k_c ?_;refine a_cq rfl (fun m hm=>qt_e (eqHeap_q (x:=z.hs) (y:=u.hs) (has_p hm).b (has_p hm).b) (congrArg Value.bool (decide_eq_true (hz.trans hu.symm)))) ?_))|fail)
 have he:=endH_eq 1 z.H
 rw[hz]at he
 refine g_c rfl (markHeap_d (x:=z) (k:=1) (by omega) (by rw[hz];omega)) (fun v As' hq=>?_)
 obtain⟨rfl,rfl⟩:=hq
 rw[hz]
 repeat' (first|refine xx ?_|(refine xy ?_ ?_<;>intro hb<;>try(exfalso;omega))|(refine k_L ?_;(refine k_c ?_;refine a_cq rfl (fun m hm=>eqDone_q (x:=gs) (y:=ws) (has_p (Bs:=gs.body) hm) (has_p (Bs:=ws.body) hm) (hg.trans hw.symm) rfl rfl) ?_))|fail)
 refine g_c rfl (markDone_a (x:=gs) (k:=1) (by omega) (by rw[hg];omega)) (fun v As' hq=>?_)
 obtain⟨rfl,gn,hgn,rfl⟩:=hq
 rw[hg]
 repeat' (first|refine xx ?_|(refine xy ?_ ?_<;>intro hb<;>try(exfalso;omega))|(refine k_L ?_;(refine k_c ?_;refine a_cq rfl (fun m hm=>qt_e (heldDone_q (x:=gs) (k:=1) (by omega) (by rw[hg];omega) hgn (has_p (Bs:=gn.body) hm)) (by rw[hg])) ?_))|fail)
 refine g_c rfl (toHeap_a hb' hx) (fun v As' hq=>?_)
 obtain⟨t,rfl,ht,rfl⟩:=hq
 repeat' (first|refine xx ?_|(refine k_L ?_;(refine k_c ?_;refine a_cq rfl (fun m hm=>toAct_q (a:=e)) ?_))|fail)
 refine g_c rfl (fna_ro (Bs:=t.body++[ro M]) (q:=fun v E=>∃u:HX,v=u.vn2 (t.H.doD e).code (t.H.doD e).num∧u.H=(t.H.doD e).heap∧E=u.body) (fun m hm=>implDo_a (x:=t) (e:=e) (hf.le (ro_of hm pmt)) (has_p (Bs:=t.body) hm))) (fun v As' hq=>?_)
 obtain⟨_,⟨hd,rfl,hh,rfl⟩,rfl⟩:=hq
 rw[ht]at hh⊢
 repeat' (first|refine xx ?_|(refine xy ?_ ?_<;>intro hb<;>try(exfalso;omega))|(refine k_L ?_;(refine k_c ?_;first|refine a_cq rfl (fun m hm=>eqDone_q (x:=hd) (y:=ws) (has_p (Bs:=hd.body) hm) (has_p (Bs:=ws.body) hm) (hh.trans hw.symm) rfl rfl) ?_|refine a_cq rfl (fun m hm=>qt_e (heldDone_q (x:=gs) (k:=1) (by omega) (by rw[hg];omega) hgn (has_p (Bs:=gn.body) hm)) (by rw[hg])) ?_))|fail)
 exact fa_q (by simp) (fun _ _=>rfl) rfl
end Go.Proofs.YtpleoapljeffiaaGreatDoor.E
namespace Go.Proofs.YtpleoapljeffiaaGreatDoor.E
open Go Go.ChangeShapes Go.WideShapes Go.ChangeAt Go.RowKit
instance:Inhabited Act:=⟨⟨0,0,0,0,0⟩⟩
theorem und_act:Tryz.prog.underlying 45=some (.struct (fsOf Tryz.prog 45)):=by kernel_rfl
theorem fs_act:(fsOf Tryz.prog 45).toList.map (fun f=>(f.type,f.offset))=[(3,0),(3,1),(3,2),(3,3),(2,4)]:=by kernel_rfl
theorem cof_act:Tryz.prog.cellsOf 45=5:=by kernel_rfl
section
variable {H:Type} {enc:TypeId×Value→H} {W:World} {spare:Nat→Bool} {held:Bool}
theorem open_act:∀n cs y,DataW.trod enc Tryz.prog W 0 spare held n 45 cs=some y→∃x:Act,cs=av x∧True:=by
 intro n cs y h
 obtain⟨hl,m,hf⟩:=open_struct und_act fs_act h
 rw[cof_act]at hl
 obtain⟨_,h0⟩:=hf 0 _ _ rfl
 obtain⟨_,h1⟩:=hf 1 _ _ rfl
 obtain⟨_,h2⟩:=hf 2 _ _ rfl
 obtain⟨_,h3⟩:=hf 3 _ _ rfl
 obtain⟨_,h4⟩:=hf 4 _ _ rfl
 obtain⟨a,ha⟩:=open_i h0
 obtain⟨b,hb⟩:=open_i h1
 obtain⟨c,hc⟩:=open_i h2
 obtain⟨d,hd⟩:=open_i h3
 obtain⟨e,he⟩:=open_i64 h4
 refine⟨⟨a,b,c,d,e⟩,?_,trivial⟩
 match cs,hl with
 |[v0,v1,v2,v3,v4],_=>
  simp at ha hb hc hd he
  subst ha;subst hb;subst hc;subst hd;subst he;rfl
end
theorem door_metExactDo(os:Os)(args:Array Value):laidMetH Tryz.prog Rows.fnExactDoRow.laid ((World.doorLaid Tryz.prog 38 os).forCall (fun _ _=>0) ⟨#[],args,[]⟩).memory:=
 laidMetH_of_parts3 (fuel:=8) (laidMet_of_run' 8 (by kernel_rfl) (by kernel_rfl)) (by kernel_rfl) (by kernel_rfl)
theorem liftedExactDo(os:Os)(started:os.Started)(H:Type)(enc:TypeId×Value→H):
 ReturnsInHanded {} Tryz.checked os 4 .any (fun w args=>(Rows.fnExactDoSpec.pre enc Tryz.prog Tryz.f4 [] false w args∧laidMetH Tryz.prog Rows.fnExactDoRow.laid w)∧sizedMet enc Tryz.prog Tryz.f4 (OpenSpec.ofChange Rows.fnExactDoSpec) false w args)
  (Rows.fnExactDoSpec.post enc Tryz.prog Tryz.f4 false true false false):=by
 refine returnsInHanded_of_change_and (C:=Tryz.checked) (X:=fun w _=>laidMetH Tryz.prog Rows.fnExactDoRow.laid w) (fun _ _ _ hh h=>h.of_heap hh) ownknob started (by kernel_rfl) Tryz.func4
  (ChangeSpec.witness_shaped (enc:=enc) (C:=Tryz.checked) (os:=os) (X:=fun w _=>laidMetH Tryz.prog Rows.fnExactDoRow.laid w) false (World.doorLaid Tryz.prog 38 os) #[.agg #[.int .i64 0,.int .i64 0,.int .i64 0,.slice none 0 0,.slice none 0 0,.int .i64 0,.int .i64 0,.int .i64 0,.slice none 0 0,.int .i64 0,.int .i64 0,.int .i64 0,.int .i64 0],.agg #[.int .i64 0,.int .i64 0,.int .i64 0,.int .i64 0,.int .i64 0]] 8 rfl (World.shaped_of_RefB (by kernel_rfl) (by kernel_rfl)) (by kernel_rfl) (by kernel_rfl) (by kernel_rfl) (door_metExactDo os _)) ?_
 intro W base args ds gs before hval0 hW _ _ hL _
 have hval:∀(j:Nat) t v,Tryz.f4.params[j]?=some t→args[j]?=some v→Value.okWide Tryz.prog W .any base t v:=hval0
 have hW':=hW
 obtain⟨p,q,hA0,hV,rfl,hfz,hnd⟩:=hW
 have hA:DataW.TrodAll enc Tryz.prog W 0 (fun _=>true) true [43,45] args.toList ds p:=hA0
 obtain⟨v0,v1,d0,d1,p0,p1,rfl,rfl,rfl,h0,h1⟩:=trodAll_two hA
 obtain⟨cs,rfl,_⟩:=okWide_struct und_heap (hval 0 43 v0 rfl rfl)
 obtain⟨ds',rfl,_⟩:=okWide_struct und_act (hval 1 45 v1 rfl rfl)
 clear hA0 hval0
 have h0k:=h0
 obtain⟨fuel,h0'⟩:=h0
 obtain⟨x,e,hx⟩:=open_heap h0'
 have e:cs=(hv x.H x.rs x.cs x.gs).toArray:=by
  have:cs.toList=hv x.H x.rs x.cs x.gs:=e
  rw[←this]
 subst e
 have h1k:=h1
 obtain⟨fuel1,h1'⟩:=h1
 obtain⟨b,e,_⟩:=open_act _ _ _ h1'
 have e:ds'=(av b).toArray:=by
  have:ds'.toList=av b:=e
  rw[←this]
 subst e
 have hlt0:∀x∈p0,x.block<W.heap.size:=fun x hx=>by simpa using hW'.lt x (by simp[hx])
 have hlt1:∀x∈p1,x.block<W.heap.size:=fun x hx=>by simpa using hW'.lt x (by simp[hx])
 have hq:Fn Tryz.prog 4 [x.v,actV b] (memOf W) (fun v M'=>v=.bool true∧(memOf W).le M'):=(fnExactDo_q hx (frm_of_met rfl hL)).mono fun v M' ⟨h1,h2⟩=>⟨h1,by rw[h2];exact Mem.le_refl _⟩
 refine(row_of hq).mono fun e W' ⟨he,bel⟩=>?_
 subst he
 have hT0:=Below.trod laid (by kernel_rfl) (of_decide_eq_true (by kernel_rfl)) h0k bel hlt0
 have hT1:=Below.trod laid (by kernel_rfl) (of_decide_eq_true (by kernel_rfl)) h1k bel hlt1
 obtain ⟨_, _, _, _, g1, _, rfl, _⟩ := trodVars_one (show DataW.TrodVars enc Tryz.prog W (fun _ => true) ["loop.example/spool/impl.forms"] gs q from hV)
 have hV2:=Below.trodVars laid bel (by kernel_rfl) hV
 exact⟨_,rfl,_,_,_,_,_,_,hW',trodAll_mk1 (shut_bool und_bool _),trodAll_cons_mk hT0 (trodAll_mk1 hT1),hV2,bel.frame _,fun h=>by cases h⟩
end Go.Proofs.YtpleoapljeffiaaGreatDoor.E
namespace Go.Proofs.YtpleoapljeffiaaGreatDoor
open Go Go.ChangeShapes Go.WideShapes Go.ChangeAt Go.RowKit
theorem fnExactDo_row:Rows.FnExactDoSaid:=
 OpenClaim.holds_of_wide 4 Tryz.f4 rfl rfl rfl rfl rfl rfl rfl ⟨rfl,rfl,rfl,rfl,rfl⟩ rfl rfl rfl rfl rfl (by kernel_rfl) Tryz.func4 jfDo
  (of_decide_eq_true (by kernel_rfl)) (by unfold Func.isWrapper;first|(rw[if_pos (by decide+kernel)];kernel_rfl)|(rw[if_neg (by decide+kernel)];exact⟨rfl,rfl⟩))
  (fun os started H enc _=>E.liftedExactDo os started H enc)
theorem fnExactDo_holds:Rows.FnExactDoCardSaid:=
 Claim7.holds_tied_plain_at .later [] [.data] true Rows.fnExactDoCard.stood.harness false
  fnExactDo_row (fun _ h=>by cases h) (by kernel_rfl) (fun _ h=>by cases h) fnExactDo_row_tie rfl ⟨rfl,rfl⟩ (by kernel_rfl) rfl
  (fun f fn hf hfn=>by
    obtain rfl : f = 4 := Option.some.inj ((show Tryz.prog.funcNamed "loop.example/spool/laws.FnExactDo" = some 4 by kernel_rfl).symm.trans hf) |>.symm
    obtain rfl:fn=Tryz.f4:=(Option.some.inj (Tryz.func4.symm.trans hfn)).symm
    exact⟨by kernel_rfl,fun j t ht=>by
     have hm:t∈[43,45]:=by
      have:=Array.mem_of_getElem? ht
      rw[←Array.mem_toList_iff]at this
      exact this
     have hall:([43,45].all fun u=> !Tryz.prog.wantsStandIn u)=true:=by kernel_rfl
     exact(show Tryz.prog.wantsStandIn t=false by simpa using List.all_eq_true.1 hall t hm)⟩)
  (by kernel_rfl)
end Go.Proofs.YtpleoapljeffiaaGreatDoor
