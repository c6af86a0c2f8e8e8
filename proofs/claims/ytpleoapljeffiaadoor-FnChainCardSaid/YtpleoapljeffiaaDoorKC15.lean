/- A part of the proof. Conditions: none. -/
import Derived.Test.YtpleoapljeffiaaDoorKC14
import Derived.Test.YtpleoapljeffiaaDoorJfChain
import Derived.Test.YtpleoapljeffiaaDoorCards
import Derived.Test.YtpleoapljeffiaaDoorTie
set_option linter.unusedVariables false
set_option linter.unusedSimpArgs false
set_option maxHeartbeats 8000000
set_option maxRecDepth 100000
namespace Go.Proofs.YtpleoapljeffiaaDoor.E
open Go
open Classical
theorem doE_wr{a:Nat}{x:HX}{op n:Int}{ka kb kc:Nat}(h:Sound x.H)(ha:ka≤15)(hb:kb≤15)(ho:op=7∨op=8):FnA Tryd.prog 39 [eV a,.agg #[.int .i64 op,.int .i64 ka,.int .i64 kb,.int .i64 kc,.int .i64 n]] (hp a x) (fun v As=>∃z:HX,v=an (doPair x.H ⟨op,ka,kb,kc,n⟩).code (doPair x.H ⟨op,ka,kb,kc,n⟩).num∧As=hp a z∧z.H=(doPair x.H ⟨op,ka,kb,kc,n⟩).heap):=by
 have hl:=x.len
 have hnc:x.hdr.nc=x.xs.length:=rfl
 have hnr:x.hdr.nr=x.regs.length:=rfl
 have h16:x.regs.length=16:=h.r1.regs
 obtain⟨v,gv⟩:∃w,x.regs[kb]?=some w:=⟨_,List.getElem?_eq_getElem (by omega)⟩
 obtain⟨w,gw⟩:∃w,x.regs[ka]?=some w:=⟨_,List.getElem?_eq_getElem (by omega)⟩
 have er:x.H.getR ka=w:=getR_at gw
 obtain⟨r1,r2⟩:=getR_ok h (r:=ka) (by omega) (by omega)
 rw[er]at r1 r2
 refine fnA_of (fun h=>fn39 (by simp) h) ?_
 unfold doPair
 dsimp only
 rw[if_neg (show ¬(op=5∨op=6) by omega),er]
 by_cases hk:w.kind=2
 ·obtain⟨b0,b1,b2,b3⟩:=r2 hk
  obtain⟨j,hj⟩:=Int.eq_ofNat_of_zero_le b0
  have et:x.H.toI w=(j:Int):=by rw[toI_used hk b2,hj]
  have hwf:w.kind=2→0≤w.at_∧w.at_<x.H.cells.length:=fun _=>⟨b0,b1⟩
  rw[hj]at b1 b2
  obtain⟨y,gy,gc⟩:=HX.at (x:=x) (i:=j) (by omega)
  have gk:=HX.gc gy
  rw[if_neg (fun e=>e hk),hj,gk,Int.toNat_natCast,Int.toNat_natCast]
  have hcj:x.H.cells[j]?=some y.c:=gc
  cases hpp:y.c.pairs[kc]? with
  |none=>
   have:=List.getElem?_eq_none_iff.1 hpp
   rcases ho with rfl|rfl
   ·repeat' (first
     |(refine k_L ?_;first|refine a_p rfl ?_|(refine k_l ?_;refine g_l rfl ?_)|(refine k_i ?_;refine g_i rfl rfl ?_)|(refine k_ls ?_;refine g_ls rfl ?_)|(refine k_st ?_;refine g_sw rfl rfl rfl rfl (Nat.le_of_ble_eq_true rfl) ?_)|(refine k_al ?_;refine a_al ?_)|(refine k_bx ?_;refine a_bx rfl rfl ?_)|(refine k_q ?_;refine a_q rfl (fun m hm=>qt_e (to_q (x:=x) (sep_has hm pmt) hwf) (by rw[et])) ?_)|(refine k_c ?_;refine a_cq rfl (fun m hm=>codeE_q) ?_))
     |refine a_n ?_
     |(refine k_V ?_;first|refine v_seq ?_|refine v_reg ?_|refine v_dreg ?_|refine v_bs ?_|refine v_ret ?_|refine v_skip ?_|refine v_ct rfl ?_|refine v_cf rfl ?_|(refine v_cd rfl (fun hb=>?_) (fun hb=>?_)<;>try(exfalso;omega)))
     |refine s_r ?_
     |refine b_r ?_
     |refine sk_zero ?_
     |refine sk_succ ?_
     |refine wk_nil ?_
     |refine wk_cons ?_)
    all_goals exact fa_r (fun _ _=>rfl) (Pm.ent pmt) ⟨x,rfl,rfl,rfl⟩
   ·repeat' (first
     |(refine k_L ?_;first|refine a_p rfl ?_|(refine k_l ?_;refine g_l rfl ?_)|(refine k_i ?_;refine g_i rfl rfl ?_)|(refine k_ls ?_;refine g_ls rfl ?_)|(refine k_st ?_;refine g_sw rfl rfl rfl rfl (Nat.le_of_ble_eq_true rfl) ?_)|(refine k_al ?_;refine a_al ?_)|(refine k_bx ?_;refine a_bx rfl rfl ?_)|(refine k_q ?_;refine a_q rfl (fun m hm=>qt_e (to_q (x:=x) (sep_has hm pmt) hwf) (by rw[et])) ?_)|(refine k_c ?_;refine a_cq rfl (fun m hm=>codeE_q) ?_))
     |refine a_n ?_
     |(refine k_V ?_;first|refine v_seq ?_|refine v_reg ?_|refine v_dreg ?_|refine v_bs ?_|refine v_ret ?_|refine v_skip ?_|refine v_ct rfl ?_|refine v_cf rfl ?_|(refine v_cd rfl (fun hb=>?_) (fun hb=>?_)<;>try(exfalso;omega)))
     |refine s_r ?_
     |refine b_r ?_
     |refine sk_zero ?_
     |refine sk_succ ?_
     |refine wk_nil ?_
     |refine wk_cons ?_)
    all_goals exact fa_r (fun _ _=>rfl) (Pm.ent pmt) ⟨x,rfl,rfl,rfl⟩
  |some p=>
   have:=(List.getElem?_eq_some_iff.1 hpp).1
   have ev:x.H.getR kb=v:=getR_at gv
   obtain⟨v1,v2⟩:=getR_ok h (r:=kb) (by omega) (by omega)
   rw[ev]at v1 v2
   have hgr:x.gray.length≤1000000:=by have:=h.r1.gray;have:=h.r1.cells;have:=h.r1.room;have e:x.H.gray.length=x.gray.length:=rfl;omega
   have wrt:∀q:Pair,HX.H {x with xs:=x.xs.set j (y.s_pair kc q)}=x.H.putP j kc q:=fun q=>by
    unfold Heap.putP
    rw[gk]
    unfold HX.H
    simp only[List.map_set];rfl
   have wat:∀q:Pair,v.kind=2→0≤v.at_∧v.at_<(x.H.putP j kc q).cells.length:=fun q hk=>by have:=v1.at hk;show _∧_<((x.H.cells.set j _).length:Int);rw[List.length_set];exact this
   have wst:∀q:Pair,v.kind=2→((x.H.putP j kc q).getC v.at_).state=1:=fun q hk=>by
    have hst:=(v2 hk).2.2.1
    have hji:j<x.H.cells.length:=by omega
    have g:(x.H.putP j kc q).getC v.at_=if v.at_.toNat=j then{x.H.getC j with pairs:=(x.H.getC j).pairs.set kc q}else x.H.getC v.at_:=by rw[getC_L,getC_L];exact getL_set hji
    rw[g];split
    ·exact b2
    ·exact hst
   rcases ho with rfl|rfl
   ·have zH:=wrt ⟨v,p.val⟩
    have hw1:=wat ⟨v,p.val⟩
    have hw2:=wst ⟨v,p.val⟩
    repeat' (first
     |(refine k_L ?_;first|refine a_p rfl ?_|(refine k_l ?_;refine g_l rfl ?_)|(refine k_i ?_;refine g_i rfl rfl ?_)|(refine k_ls ?_;refine g_ls rfl ?_)|(refine k_st ?_;refine g_st rfl rfl rfl rfl ?_)|(refine k_al ?_;refine a_al ?_)|(refine k_bx ?_;refine a_bx rfl rfl ?_)|(refine k_q ?_;refine a_q rfl (fun m hm=>qt_e (to_q (x:=x) (sep_has hm pmt) hwf) (by rw[et])) ?_))
     |refine a_n ?_
     |(refine k_V ?_;first|refine v_seq ?_|refine v_reg ?_|refine v_dreg ?_|refine v_bs ?_|refine v_skip ?_|refine v_ct rfl ?_|refine v_cf rfl ?_|(refine v_cd rfl (fun hb=>?_) (fun hb=>?_)<;>try(exfalso;omega))))
    have gy':(x.xs.set j (y.s_pair kc ⟨v,p.val⟩))[j]?=some (y.s_pair kc ⟨v,p.val⟩):=by rw[List.getElem?_set,if_pos rfl,if_pos (by omega)]
    have hpp':(y.s_pair kc ⟨v,p.val⟩).c.pairs[kc]?=some ⟨v,p.val⟩:=by show(y.c.pairs.set kc _)[kc]?=_;rw[List.getElem?_set,if_pos rfl,if_pos (by omega)]
    refine a_ls rfl (rs_t (rs_t (rs_h (r_key (y:=y.s_pair kc ⟨v,p.val⟩) (p:=⟨v,p.val⟩) gy' hpp')))) ?_
    refine LA.ent (Pm.ent (fin ({x with xs:=x.xs.set j (y.s_pair kc ⟨v,p.val⟩)}:HX) (e1:=by simp[HX.hdr]))) ?_
    refine g_c rfl (shadeWord_a (x:={x with xs:=x.xs.set j (y.s_pair kc ⟨v,p.val⟩)}) (w:=v) (by rw[zH];exact hw1) (by rw[zH];exact hw2) hgr) (fun v' As' hq=>?_)
    obtain⟨u,rfl,rfl,hu,_⟩:=hq
    repeat' (first
     |(refine k_L ?_;first|(refine k_st ?_;refine g_sw rfl rfl rfl rfl (Nat.le_of_ble_eq_true rfl) ?_)|(refine k_c ?_;refine a_cq rfl (fun m hm=>numE_q) ?_))
     |refine a_n ?_
     |(refine k_V ?_;first|refine v_seq ?_|refine v_reg ?_|refine v_ret ?_)
     |refine sk_zero ?_
     |refine sk_succ ?_
     |refine wk_nil ?_
     |refine wk_cons ?_)
    all_goals exact fa_r (fun _ _=>rfl) (Pm.ent pmt) ⟨u,rfl,rfl,by rw[hu,zH,shadeW_put (by omega) v1,ev];rfl⟩
   ·have zH:=wrt ⟨p.key,v⟩
    have hw1:=wat ⟨p.key,v⟩
    have hw2:=wst ⟨p.key,v⟩
    repeat' (first
     |(refine k_L ?_;first|refine a_p rfl ?_|(refine k_l ?_;refine g_l rfl ?_)|(refine k_i ?_;refine g_i rfl rfl ?_)|(refine k_ls ?_;refine g_ls rfl ?_)|(refine k_st ?_;refine g_st rfl rfl rfl rfl ?_)|(refine k_al ?_;refine a_al ?_)|(refine k_bx ?_;refine a_bx rfl rfl ?_)|(refine k_q ?_;refine a_q rfl (fun m hm=>qt_e (to_q (x:=x) (sep_has hm pmt) hwf) (by rw[et])) ?_))
     |refine a_n ?_
     |(refine k_V ?_;first|refine v_seq ?_|refine v_reg ?_|refine v_dreg ?_|refine v_bs ?_|refine v_skip ?_|refine v_ct rfl ?_|refine v_cf rfl ?_|(refine v_cd rfl (fun hb=>?_) (fun hb=>?_)<;>try(exfalso;omega))))
    have gy':(x.xs.set j (y.s_pair kc ⟨p.key,v⟩))[j]?=some (y.s_pair kc ⟨p.key,v⟩):=by rw[List.getElem?_set,if_pos rfl,if_pos (by omega)]
    have hpp':(y.s_pair kc ⟨p.key,v⟩).c.pairs[kc]?=some ⟨p.key,v⟩:=by show(y.c.pairs.set kc _)[kc]?=_;rw[List.getElem?_set,if_pos rfl,if_pos (by omega)]
    refine a_ls rfl (rs_t (rs_t (rs_h (r_val (y:=y.s_pair kc ⟨p.key,v⟩) (p:=⟨p.key,v⟩) gy' hpp')))) ?_
    refine LA.ent (Pm.ent (fin ({x with xs:=x.xs.set j (y.s_pair kc ⟨p.key,v⟩)}:HX) (e1:=by simp[HX.hdr]))) ?_
    refine g_c rfl (shadeWord_a (x:={x with xs:=x.xs.set j (y.s_pair kc ⟨p.key,v⟩)}) (w:=v) (by rw[zH];exact hw1) (by rw[zH];exact hw2) hgr) (fun v' As' hq=>?_)
    obtain⟨u,rfl,rfl,hu,_⟩:=hq
    repeat' (first
     |(refine k_L ?_;first|(refine k_st ?_;refine g_sw rfl rfl rfl rfl (Nat.le_of_ble_eq_true rfl) ?_)|(refine k_c ?_;refine a_cq rfl (fun m hm=>numE_q) ?_))
     |refine a_n ?_
     |(refine k_V ?_;first|refine v_seq ?_|refine v_reg ?_|refine v_ret ?_)
     |refine sk_zero ?_
     |refine sk_succ ?_
     |refine wk_nil ?_
     |refine wk_cons ?_)
    all_goals exact fa_r (fun _ _=>rfl) (Pm.ent pmt) ⟨u,rfl,rfl,by rw[hu,zH,shadeW_put (by omega) v1,ev];rfl⟩
 ·have et:=toI_no (H:=x.H) hk
  rw[if_pos hk]
  rcases ho with rfl|rfl
  ·repeat' (first
    |(refine k_L ?_;first|refine a_p rfl ?_|(refine k_l ?_;refine g_l rfl ?_)|(refine k_i ?_;refine g_i rfl rfl ?_)|(refine k_ls ?_;refine g_ls rfl ?_)|(refine k_st ?_;refine g_sw rfl rfl rfl rfl (Nat.le_of_ble_eq_true rfl) ?_)|(refine k_al ?_;refine a_al ?_)|(refine k_bx ?_;refine a_bx rfl rfl ?_)|(refine k_q ?_;refine a_q rfl (fun m hm=>qt_e (to_q (x:=x) (sep_has hm pmt) (fun e=>absurd e hk)) (by rw[et])) ?_)|(refine k_c ?_;refine a_cq rfl (fun m hm=>codeE_q) ?_))
    |refine a_n ?_
    |(refine k_V ?_;first|refine v_seq ?_|refine v_reg ?_|refine v_dreg ?_|refine v_bs ?_|refine v_ret ?_|refine v_skip ?_|refine v_ct rfl ?_|refine v_cf rfl ?_)
    |refine s_r ?_
    |refine sk_zero ?_
    |refine sk_succ ?_
    |refine wk_nil ?_
    |refine wk_cons ?_)
   all_goals exact fa_r (fun _ _=>rfl) (Pm.ent pmt) ⟨x,rfl,rfl,rfl⟩
  ·repeat' (first
    |(refine k_L ?_;first|refine a_p rfl ?_|(refine k_l ?_;refine g_l rfl ?_)|(refine k_i ?_;refine g_i rfl rfl ?_)|(refine k_ls ?_;refine g_ls rfl ?_)|(refine k_st ?_;refine g_sw rfl rfl rfl rfl (Nat.le_of_ble_eq_true rfl) ?_)|(refine k_al ?_;refine a_al ?_)|(refine k_bx ?_;refine a_bx rfl rfl ?_)|(refine k_q ?_;refine a_q rfl (fun m hm=>qt_e (to_q (x:=x) (sep_has hm pmt) (fun e=>absurd e hk)) (by rw[et])) ?_)|(refine k_c ?_;refine a_cq rfl (fun m hm=>codeE_q) ?_))
    |refine a_n ?_
    |(refine k_V ?_;first|refine v_seq ?_|refine v_reg ?_|refine v_dreg ?_|refine v_bs ?_|refine v_ret ?_|refine v_skip ?_|refine v_ct rfl ?_|refine v_cf rfl ?_)
    |refine s_r ?_
    |refine sk_zero ?_
    |refine sk_succ ?_
    |refine wk_nil ?_
    |refine wk_cons ?_)
   all_goals exact fa_r (fun _ _=>rfl) (Pm.ent pmt) ⟨x,rfl,rfl,rfl⟩
theorem doE_cell{a:Nat}{x:HX}{op n:Int}{ka kb kc:Nat}(h:Sound x.H)(ha:ka≤15)(hc:kc≤200)(ho:op=9∨op=10∨op=11∨op=16∨op=17):FnA Tryd.prog 39 [eV a,.agg #[.int .i64 op,.int .i64 ka,.int .i64 kb,.int .i64 kc,.int .i64 n]] (hp a x) (fun v As=>∃z:HX,v=an (doCell x.H ⟨op,ka,kb,kc,n⟩).code (doCell x.H ⟨op,ka,kb,kc,n⟩).num∧As=hp a z∧z.H=(doCell x.H ⟨op,ka,kb,kc,n⟩).heap):=by
 have hl:=x.len
 have hnc:x.hdr.nc=x.xs.length:=rfl
 have hnr:x.hdr.nr=x.regs.length:=rfl
 have h16:x.regs.length=16:=h.r1.regs
 obtain⟨w,gw⟩:∃w,x.regs[ka]?=some w:=⟨_,List.getElem?_eq_getElem (by omega)⟩
 have er:x.H.getR ka=w:=getR_at gw
 obtain⟨r1,r2⟩:=getR_ok h (r:=ka) (by omega) (by omega)
 rw[er]at r1 r2
 refine fnA_of (fun h=>fn39 (by simp) h) ?_
 unfold doCell
 dsimp only
 rw[er]
 by_cases hk:w.kind=2
 ·obtain⟨b0,b1,b2,b3⟩:=r2 hk
  obtain⟨j,hj⟩:=Int.eq_ofNat_of_zero_le b0
  have et:x.H.toI w=(j:Int):=by rw[toI_used hk b2,hj]
  have hwf:w.kind=2→0≤w.at_∧w.at_<x.H.cells.length:=fun _=>⟨b0,b1⟩
  rw[hj]at b1 b2
  obtain⟨y,gy,gc⟩:=HX.at (x:=x) (i:=j) (by omega)
  have gk:=HX.gc gy
  rw[if_neg (fun e=>e hk),hj,gk,Int.toNat_natCast]
  rcases ho with rfl|rfl|rfl|rfl|rfl
  ·repeat' (first
    |(refine k_L ?_;first|refine a_p rfl ?_|(refine k_l ?_;refine g_l rfl ?_)|(refine k_i ?_;refine g_i rfl rfl ?_)|(refine k_ls ?_;refine g_ls rfl ?_)|(refine k_st ?_;refine g_sw rfl rfl rfl rfl (Nat.le_of_ble_eq_true rfl) ?_)|(refine k_al ?_;refine a_al ?_)|(refine k_bx ?_;refine a_bx rfl rfl ?_)|(refine k_q ?_;refine a_q rfl (fun m hm=>qt_e (to_q (x:=x) (sep_has hm pmt) hwf) (by rw[et])) ?_)|(refine g_c rfl (growE_a (x:=x) (op:=9) (n:=n) (ka:=ka) (kb:=kb) (kc:=kc) (j0:=j) h ha hc (by rw[er];exact hk) (by rw[er];exact hj)) (fun v As' hq=>?_);obtain⟨z,rfl,rfl,hz⟩:=hq))
    |refine a_n ?_
    |(refine k_V ?_;first|refine v_seq ?_|refine v_reg ?_|refine v_dreg ?_|refine v_bs ?_|refine v_ret ?_|refine v_skip ?_|refine v_ct rfl ?_|refine v_cf rfl ?_)
    |refine s_r ?_
    |refine b_r ?_
    |refine sk_zero ?_
    |refine sk_succ ?_
    |refine wk_nil ?_
    |refine wk_cons ?_)
   all_goals exact fa_r (fun _ _=>rfl) (Pm.ent pmt) ⟨z,rfl,rfl,hz⟩
  ·repeat' (first
    |(refine k_L ?_;first|refine a_p rfl ?_|(refine k_l ?_;refine g_l rfl ?_)|(refine k_i ?_;refine g_i rfl rfl ?_)|(refine k_ls ?_;refine g_ls rfl ?_)|(refine k_st ?_;refine g_sw rfl rfl rfl rfl (Nat.le_of_ble_eq_true rfl) ?_)|(refine k_al ?_;refine a_al ?_)|(refine k_bx ?_;refine a_bx rfl rfl ?_)|(refine k_q ?_;refine a_q rfl (fun m hm=>qt_e (to_q (x:=x) (sep_has hm pmt) hwf) (by rw[et])) ?_)|(refine k_c ?_;refine a_cq rfl (fun m hm=>numE_q) ?_)|(refine g_c rfl (cutE_a (x:=x) (i:=j) (n:=kc) h (by omega) b2) (fun v As' hq=>?_);obtain⟨z,rfl,hz⟩:=hq))
    |refine a_n ?_
    |(refine k_V ?_;first|refine v_seq ?_|refine v_reg ?_|refine v_dreg ?_|refine v_bs ?_|refine v_ret ?_|refine v_skip ?_|refine v_ct rfl ?_|refine v_cf rfl ?_)
    |refine sk_zero ?_
    |refine sk_succ ?_
    |refine wk_nil ?_
    |refine wk_cons ?_)
   all_goals exact fa_r (fun _ _=>rfl) (Pm.ent pmt) ⟨z,rfl,rfl,hz⟩
  ·repeat' (first
    |(refine k_L ?_;first|refine a_p rfl ?_|(refine k_l ?_;refine g_l rfl ?_)|(refine k_i ?_;refine g_i rfl rfl ?_)|(refine k_ls ?_;refine g_ls rfl ?_)|(refine k_st ?_;first|refine g_st rfl rfl rfl rfl ?_|refine g_sw rfl rfl rfl rfl (Nat.le_of_ble_eq_true rfl) ?_)|(refine k_al ?_;refine a_al ?_)|(refine k_bx ?_;refine a_bx rfl rfl ?_)|(refine k_q ?_;refine a_q rfl (fun m hm=>qt_e (to_q (x:=x) (sep_has hm pmt) hwf) (by rw[et])) ?_)|(refine k_c ?_;refine a_cq rfl (fun m hm=>numE_q) ?_))
    |refine a_n ?_
    |(refine k_V ?_;first|refine v_seq ?_|refine v_reg ?_|refine v_dreg ?_|refine v_bs ?_|refine v_ret ?_|refine v_skip ?_|refine v_ct rfl ?_|refine v_cf rfl ?_)
    |refine sk_zero ?_
    |refine sk_succ ?_
    |refine wk_nil ?_
    |refine wk_cons ?_)
   refine fa_r (fun _ _=>rfl) (Pm.ent (fin ({x with xs:=x.xs.set j (y.s_weak kc)}:HX) (e1:=by simp[HX.hdr]))) ⟨_,rfl,rfl,?_⟩
   show _=x.H.putW j kc
   unfold Heap.putW
   rw[gk]
   unfold HX.H
   simp only[List.map_set];rfl
  ·repeat' (first
    |(refine k_L ?_;first|refine a_p rfl ?_|(refine k_l ?_;refine g_l rfl ?_)|(refine k_i ?_;refine g_i rfl rfl ?_)|(refine k_ls ?_;refine g_ls rfl ?_)|(refine k_st ?_;refine g_sw rfl rfl rfl rfl (Nat.le_of_ble_eq_true rfl) ?_)|(refine k_al ?_;refine a_al ?_)|(refine k_bx ?_;refine a_bx rfl rfl ?_)|(refine k_q ?_;refine a_q rfl (fun m hm=>qt_e (to_q (x:=x) (sep_has hm pmt) hwf) (by rw[et])) ?_)|(refine k_c ?_;refine a_cq rfl (fun m hm=>numE_q) ?_))
    |refine a_n ?_
    |(refine k_V ?_;first|refine v_seq ?_|refine v_reg ?_|refine v_dreg ?_|refine v_bs ?_|refine v_ret ?_|refine v_skip ?_|refine v_ct rfl ?_|refine v_cf rfl ?_)
    |refine s_r ?_
    |refine b_r ?_
    |refine sk_zero ?_
    |refine sk_succ ?_
    |refine wk_nil ?_
    |refine wk_cons ?_)
   all_goals exact fa_r (fun _ _=>rfl) (Pm.ent pmt) ⟨x,rfl,rfl,rfl⟩
  ·repeat' (first
    |(refine k_L ?_;first|refine a_p rfl ?_|(refine k_l ?_;refine g_l rfl ?_)|(refine k_i ?_;refine g_i rfl rfl ?_)|(refine k_ls ?_;refine g_ls rfl ?_)|(refine k_st ?_;refine g_sw rfl rfl rfl rfl (Nat.le_of_ble_eq_true rfl) ?_)|(refine k_al ?_;refine a_al ?_)|(refine k_bx ?_;refine a_bx rfl rfl ?_)|(refine k_q ?_;refine a_q rfl (fun m hm=>qt_e (to_q (x:=x) (sep_has hm pmt) hwf) (by rw[et])) ?_)|(refine k_c ?_;refine a_cq rfl (fun m hm=>numE_q) ?_))
    |refine a_n ?_
    |(refine k_V ?_;first|refine v_seq ?_|refine v_reg ?_|refine v_dreg ?_|refine v_bs ?_|refine v_ret ?_|refine v_skip ?_|refine v_ct rfl ?_|refine v_cf rfl ?_)
    |refine s_r ?_
    |refine b_r ?_
    |refine sk_zero ?_
    |refine sk_succ ?_
    |refine wk_nil ?_
    |refine wk_cons ?_)
   all_goals exact fa_r (fun _ _=>rfl) (Pm.ent pmt) ⟨x,rfl,rfl,rfl⟩
 ·have et:=toI_no (H:=x.H) hk
  rw[if_pos hk]
  rcases ho with rfl|rfl|rfl|rfl|rfl
  ·repeat' (first
    |(refine k_L ?_;first|refine a_p rfl ?_|(refine k_l ?_;refine g_l rfl ?_)|(refine k_i ?_;refine g_i rfl rfl ?_)|(refine k_ls ?_;refine g_ls rfl ?_)|(refine k_st ?_;refine g_sw rfl rfl rfl rfl (Nat.le_of_ble_eq_true rfl) ?_)|(refine k_al ?_;refine a_al ?_)|(refine k_bx ?_;refine a_bx rfl rfl ?_)|(refine k_q ?_;refine a_q rfl (fun m hm=>qt_e (to_q (x:=x) (sep_has hm pmt) (fun e=>absurd e hk)) (by rw[et])) ?_)|(refine k_c ?_;refine a_cq rfl (fun m hm=>codeE_q) ?_))
    |refine a_n ?_
    |(refine k_V ?_;first|refine v_seq ?_|refine v_reg ?_|refine v_dreg ?_|refine v_bs ?_|refine v_ret ?_|refine v_skip ?_|refine v_ct rfl ?_|refine v_cf rfl ?_)
    |refine s_r ?_
    |refine sk_zero ?_
    |refine sk_succ ?_
    |refine wk_nil ?_
    |refine wk_cons ?_)
   all_goals exact fa_r (fun _ _=>rfl) (Pm.ent pmt) ⟨x,rfl,rfl,rfl⟩
  ·repeat' (first
    |(refine k_L ?_;first|refine a_p rfl ?_|(refine k_l ?_;refine g_l rfl ?_)|(refine k_i ?_;refine g_i rfl rfl ?_)|(refine k_ls ?_;refine g_ls rfl ?_)|(refine k_st ?_;refine g_sw rfl rfl rfl rfl (Nat.le_of_ble_eq_true rfl) ?_)|(refine k_al ?_;refine a_al ?_)|(refine k_bx ?_;refine a_bx rfl rfl ?_)|(refine k_q ?_;refine a_q rfl (fun m hm=>qt_e (to_q (x:=x) (sep_has hm pmt) (fun e=>absurd e hk)) (by rw[et])) ?_)|(refine k_c ?_;refine a_cq rfl (fun m hm=>codeE_q) ?_))
    |refine a_n ?_
    |(refine k_V ?_;first|refine v_seq ?_|refine v_reg ?_|refine v_dreg ?_|refine v_bs ?_|refine v_ret ?_|refine v_skip ?_|refine v_ct rfl ?_|refine v_cf rfl ?_)
    |refine s_r ?_
    |refine sk_zero ?_
    |refine sk_succ ?_
    |refine wk_nil ?_
    |refine wk_cons ?_)
   all_goals exact fa_r (fun _ _=>rfl) (Pm.ent pmt) ⟨x,rfl,rfl,rfl⟩
  ·repeat' (first
    |(refine k_L ?_;first|refine a_p rfl ?_|(refine k_l ?_;refine g_l rfl ?_)|(refine k_i ?_;refine g_i rfl rfl ?_)|(refine k_ls ?_;refine g_ls rfl ?_)|(refine k_st ?_;refine g_sw rfl rfl rfl rfl (Nat.le_of_ble_eq_true rfl) ?_)|(refine k_al ?_;refine a_al ?_)|(refine k_bx ?_;refine a_bx rfl rfl ?_)|(refine k_q ?_;refine a_q rfl (fun m hm=>qt_e (to_q (x:=x) (sep_has hm pmt) (fun e=>absurd e hk)) (by rw[et])) ?_)|(refine k_c ?_;refine a_cq rfl (fun m hm=>codeE_q) ?_))
    |refine a_n ?_
    |(refine k_V ?_;first|refine v_seq ?_|refine v_reg ?_|refine v_dreg ?_|refine v_bs ?_|refine v_ret ?_|refine v_skip ?_|refine v_ct rfl ?_|refine v_cf rfl ?_)
    |refine s_r ?_
    |refine sk_zero ?_
    |refine sk_succ ?_
    |refine wk_nil ?_
    |refine wk_cons ?_)
   all_goals exact fa_r (fun _ _=>rfl) (Pm.ent pmt) ⟨x,rfl,rfl,rfl⟩
  ·repeat' (first
    |(refine k_L ?_;first|refine a_p rfl ?_|(refine k_l ?_;refine g_l rfl ?_)|(refine k_i ?_;refine g_i rfl rfl ?_)|(refine k_ls ?_;refine g_ls rfl ?_)|(refine k_st ?_;refine g_sw rfl rfl rfl rfl (Nat.le_of_ble_eq_true rfl) ?_)|(refine k_al ?_;refine a_al ?_)|(refine k_bx ?_;refine a_bx rfl rfl ?_)|(refine k_q ?_;refine a_q rfl (fun m hm=>qt_e (to_q (x:=x) (sep_has hm pmt) (fun e=>absurd e hk)) (by rw[et])) ?_)|(refine k_c ?_;refine a_cq rfl (fun m hm=>codeE_q) ?_))
    |refine a_n ?_
    |(refine k_V ?_;first|refine v_seq ?_|refine v_reg ?_|refine v_dreg ?_|refine v_bs ?_|refine v_ret ?_|refine v_skip ?_|refine v_ct rfl ?_|refine v_cf rfl ?_)
    |refine s_r ?_
    |refine sk_zero ?_
    |refine sk_succ ?_
    |refine wk_nil ?_
    |refine wk_cons ?_)
   all_goals exact fa_r (fun _ _=>rfl) (Pm.ent pmt) ⟨x,rfl,rfl,rfl⟩
  ·repeat' (first
    |(refine k_L ?_;first|refine a_p rfl ?_|(refine k_l ?_;refine g_l rfl ?_)|(refine k_i ?_;refine g_i rfl rfl ?_)|(refine k_ls ?_;refine g_ls rfl ?_)|(refine k_st ?_;refine g_sw rfl rfl rfl rfl (Nat.le_of_ble_eq_true rfl) ?_)|(refine k_al ?_;refine a_al ?_)|(refine k_bx ?_;refine a_bx rfl rfl ?_)|(refine k_q ?_;refine a_q rfl (fun m hm=>qt_e (to_q (x:=x) (sep_has hm pmt) (fun e=>absurd e hk)) (by rw[et])) ?_)|(refine k_c ?_;refine a_cq rfl (fun m hm=>codeE_q) ?_))
    |refine a_n ?_
    |(refine k_V ?_;first|refine v_seq ?_|refine v_reg ?_|refine v_dreg ?_|refine v_bs ?_|refine v_ret ?_|refine v_ct rfl ?_|refine v_cf rfl ?_)
    |refine s_r ?_
    |refine sk_zero ?_
    |refine sk_succ ?_
    |refine wk_nil ?_
    |refine wk_cons ?_)
   all_goals exact fa_r (fun _ _=>rfl) (Pm.ent pmt) ⟨x,rfl,rfl,rfl⟩
theorem doE_last{a:Nat}{x:HX}{op n:Int}{ka kb kc:Nat}(h:Sound x.H)(ha:ka≤15)(hc:kc≤1)(ho:op=12):FnA Tryd.prog 39 [eV a,.agg #[.int .i64 op,.int .i64 ka,.int .i64 kb,.int .i64 kc,.int .i64 n]] (hp a x) (fun v As=>∃z:HX,v=an (doCell x.H ⟨op,ka,kb,kc,n⟩).code (doCell x.H ⟨op,ka,kb,kc,n⟩).num∧As=hp a z∧z.H=(doCell x.H ⟨op,ka,kb,kc,n⟩).heap):=by
 subst ho
 have hl:=x.len
 have hnc:x.hdr.nc=x.xs.length:=rfl
 have hnr:x.hdr.nr=x.regs.length:=rfl
 have h16:x.regs.length=16:=h.r1.regs
 obtain⟨w,gw⟩:∃w,x.regs[ka]?=some w:=⟨_,List.getElem?_eq_getElem (by omega)⟩
 have er:x.H.getR ka=w:=getR_at gw
 obtain⟨r1,r2⟩:=getR_ok h (r:=ka) (by omega) (by omega)
 rw[er]at r1 r2
 refine fnA_of (fun h=>fn39 (by simp) h) ?_
 unfold doCell
 dsimp only
 rw[er]
 by_cases hk:w.kind=2
 ·obtain⟨b0,b1,b2,b3⟩:=r2 hk
  obtain⟨j,hj⟩:=Int.eq_ofNat_of_zero_le b0
  have et:x.H.toI w=(j:Int):=by rw[toI_used hk b2,hj]
  have hwf:w.kind=2→0≤w.at_∧w.at_<x.H.cells.length:=fun _=>⟨b0,b1⟩
  have hw0:w.at_.toNat=j:=by omega
  rw[hj]at b1 b2
  obtain⟨y,gy,gc⟩:=HX.at (x:=x) (i:=j) (by omega)
  have gk:=HX.gc gy
  rw[if_neg (fun e=>e hk),hj,Int.toNat_natCast]
  have zH:HX.H {x with xs:=x.xs.set j (y.s_last kc)}=x.H.putL j kc:=by
   unfold Heap.putL
   rw[gk]
   unfold HX.H
   simp only[List.map_set];rfl
  have esw:x.H.shadeW w=x.H.shadeH j:=by unfold Heap.shadeW;rw[if_pos hk,hw0]
  by_cases hc1:(kc:Int)=1
  ·have hkc:kc=1:=by omega
   subst hkc
   rw[if_neg (by omega),if_neg (by omega),if_neg (by omega),if_pos rfl,if_pos hc1]
   repeat' (first
    |(refine k_L ?_;first|refine a_p rfl ?_|(refine k_l ?_;refine g_l rfl ?_)|(refine k_i ?_;refine g_i rfl rfl ?_)|(refine k_ls ?_;refine g_ls rfl ?_)|(refine k_st ?_;refine g_st rfl rfl rfl rfl ?_)|(refine k_al ?_;refine a_al ?_)|(refine k_bx ?_;refine a_bx rfl rfl ?_)|(refine k_q ?_;refine a_q rfl (fun m hm=>qt_e (to_q (x:=x) (sep_has hm pmt) hwf) (by rw[et])) ?_))
    |refine a_n ?_
    |(refine k_V ?_;first|refine v_seq ?_|refine v_reg ?_|refine v_dreg ?_|refine v_bs ?_|refine v_skip ?_|refine v_ct rfl ?_|refine v_cf rfl ?_))
   refine LA.ent (Pm.ent (fin ({x with xs:=x.xs.set j (y.s_last (1:Nat))}:HX) (e1:=by simp[HX.hdr]))) ?_
   refine g_c rfl (shadeH_a (x:={x with xs:=x.xs.set j (y.s_last (1:Nat))}) (i:=j) (by show j<(x.xs.set j _).length;rw[List.length_set]<;>omega) (by have:=h.r1.gray;have:=h.r1.cells;have:=h.r1.room;show x.gray.length≤_;have e:x.H.gray.length=x.gray.length:=rfl;omega)) (fun v' As' hq=>?_)
   obtain⟨u,rfl,hu,_⟩:=hq
   repeat' (first
    |(refine k_L ?_;first|(refine k_st ?_;refine g_sw rfl rfl rfl rfl (Nat.le_of_ble_eq_true rfl) ?_)|(refine k_c ?_;refine a_cq rfl (fun m hm=>numE_q) ?_))
    |refine a_n ?_
    |(refine k_V ?_;first|refine v_seq ?_|refine v_reg ?_|refine v_ret ?_)
    |refine sk_zero ?_
    |refine sk_succ ?_
    |refine wk_nil ?_
    |refine wk_cons ?_)
   all_goals exact fa_r (fun _ _=>rfl) (Pm.ent pmt) ⟨u,rfl,rfl,by rw[hu,zH,shadeH_putL (by omega) (by omega),esw]<;>rfl⟩
  ·rw[if_neg (by omega),if_neg (by omega),if_neg (by omega),if_pos rfl,if_neg hc1]
   repeat' (first
    |(refine k_L ?_;first|refine a_p rfl ?_|(refine k_l ?_;refine g_l rfl ?_)|(refine k_i ?_;refine g_i rfl rfl ?_)|(refine k_ls ?_;refine g_ls rfl ?_)|(refine k_st ?_;first|refine g_st rfl rfl rfl rfl ?_|refine g_sw rfl rfl rfl rfl (Nat.le_of_ble_eq_true rfl) ?_)|(refine k_al ?_;refine a_al ?_)|(refine k_bx ?_;refine a_bx rfl rfl ?_)|(refine k_q ?_;refine a_q rfl (fun m hm=>qt_e (to_q (x:=x) (sep_has hm pmt) hwf) (by rw[et])) ?_)|(refine k_c ?_;refine a_cq rfl (fun m hm=>numE_q) ?_))
    |refine a_n ?_
    |(refine k_V ?_;first|refine v_seq ?_|refine v_reg ?_|refine v_dreg ?_|refine v_bs ?_|refine v_ret ?_|refine v_skip ?_|refine v_ct rfl ?_|refine v_cf rfl ?_|(refine v_cd rfl (fun hb=>?_) (fun hb=>?_)<;>try(exfalso;omega)))
    |refine sk_zero ?_
    |refine sk_succ ?_
    |refine wk_nil ?_
    |refine wk_cons ?_)
   all_goals exact fa_r (fun _ _=>rfl) (Pm.ent (fin ({x with xs:=x.xs.set j (y.s_last kc)}:HX) (e1:=by simp[HX.hdr]))) ⟨_,rfl,rfl,zH⟩
 ·have et:=toI_no (H:=x.H) hk
  rw[if_pos hk]
  repeat' (first
   |(refine k_L ?_;first|refine a_p rfl ?_|(refine k_l ?_;refine g_l rfl ?_)|(refine k_i ?_;refine g_i rfl rfl ?_)|(refine k_ls ?_;refine g_ls rfl ?_)|(refine k_st ?_;refine g_sw rfl rfl rfl rfl (Nat.le_of_ble_eq_true rfl) ?_)|(refine k_al ?_;refine a_al ?_)|(refine k_bx ?_;refine a_bx rfl rfl ?_)|(refine k_q ?_;refine a_q rfl (fun m hm=>qt_e (to_q (x:=x) (sep_has hm pmt) (fun e=>absurd e hk)) (by rw[et])) ?_)|(refine k_c ?_;refine a_cq rfl (fun m hm=>codeE_q) ?_))
   |refine a_n ?_
   |(refine k_V ?_;first|refine v_seq ?_|refine v_reg ?_|refine v_dreg ?_|refine v_bs ?_|refine v_ret ?_|refine v_skip ?_|refine v_ct rfl ?_|refine v_cf rfl ?_)
   |refine s_r ?_
   |refine sk_zero ?_
   |refine sk_succ ?_
   |refine wk_nil ?_
   |refine wk_cons ?_)
  all_goals exact fa_r (fun _ _=>rfl) (Pm.ent pmt) ⟨x,rfl,rfl,rfl⟩
section
variable {a:Nat} {x:HX} {n:Int} {ka kb kc:Nat}
theorem smp_2(h:Sound x.H)(hP:ActP ⟨2,ka,kb,kc,n⟩):FnA Tryd.prog 41 [eV a,.agg #[.int .i64 2,.int .i64 ka,.int .i64 kb,.int .i64 kc,.int .i64 n]] (hp a x) (fun v As=>∃z:HX,v=an 0 0∧As=hp a z∧z.H=x.H.setR ka ⟨1,n,0⟩):=by
 have hQ:=hP
 simp[ActP,aMost,bMost,cMost]at hQ
 have hnr:x.hdr.nr=x.regs.length:=rfl
 have h16:x.regs.length=16:=h.r1.regs
 obtain⟨w,gw⟩:∃w,x.regs[ka]?=some w:=⟨_,List.getElem?_eq_getElem (by omega)⟩
 refine fnA_of (fun h=>fn41 (by simp) h) ?_
 repeat' (first
  |(refine k_L ?_;first|(refine k_l ?_;refine g_l rfl ?_)|(refine k_i ?_;refine g_i rfl rfl ?_)|(refine k_st ?_;first|refine g_st rfl rfl rfl rfl ?_|refine g_sw rfl rfl rfl rfl (Nat.le_of_ble_eq_true rfl) ?_)|(refine k_al ?_;refine a_al ?_)|(refine k_bx ?_;refine a_bx rfl rfl ?_)|(refine k_c ?_;refine a_cq rfl (fun m hm=>numE_q) ?_)|(refine b_w ⟨1,n,0⟩ rfl ?_)|(refine b_p rfl ?_))
  |refine a_n ?_
  |(refine k_V ?_;first|refine v_seq ?_|refine v_reg ?_|refine v_dreg ?_|refine v_bs ?_|refine v_ret ?_|refine v_ct rfl ?_|refine v_cf rfl ?_)
  |refine sk_zero ?_
  |refine sk_succ ?_
  |refine wk_nil ?_
  |refine wk_cons ?_)
 all_goals exact fa_r (fun _ _=>rfl) (Pm.ent (fin ({x with regs:=x.regs.set ka ⟨1,n,0⟩}:HX) (h1:=by simp[HX.hdr]))) ⟨_,rfl,rfl,rfl⟩
theorem smp_3(h:Sound x.H)(hP:ActP ⟨3,ka,kb,kc,n⟩):FnA Tryd.prog 41 [eV a,.agg #[.int .i64 3,.int .i64 ka,.int .i64 kb,.int .i64 kc,.int .i64 n]] (hp a x) (fun v As=>∃z:HX,v=an 0 0∧As=hp a z∧z.H=x.H.setR ka ⟨0,0,0⟩):=by
 have hQ:=hP
 simp[ActP,aMost,bMost,cMost]at hQ
 have hnr:x.hdr.nr=x.regs.length:=rfl
 have h16:x.regs.length=16:=h.r1.regs
 obtain⟨w,gw⟩:∃w,x.regs[ka]?=some w:=⟨_,List.getElem?_eq_getElem (by omega)⟩
 refine fnA_of (fun h=>fn41 (by simp) h) ?_
 repeat' (first
  |(refine k_L ?_;first|(refine k_l ?_;refine g_l rfl ?_)|(refine k_i ?_;refine g_i rfl rfl ?_)|(refine k_st ?_;first|refine g_st rfl rfl rfl rfl ?_|refine g_sw rfl rfl rfl rfl (Nat.le_of_ble_eq_true rfl) ?_)|(refine k_al ?_;refine a_al ?_)|(refine k_bx ?_;refine a_bx rfl rfl ?_)|(refine k_c ?_;refine a_cq rfl (fun m hm=>numE_q) ?_)|(refine b_w ⟨0,0,0⟩ rfl ?_)|(refine b_p rfl ?_))
  |refine a_n ?_
  |(refine k_V ?_;first|refine v_seq ?_|refine v_reg ?_|refine v_dreg ?_|refine v_bs ?_|refine v_ret ?_|refine v_ct rfl ?_|refine v_cf rfl ?_)
  |refine sk_zero ?_
  |refine sk_succ ?_
  |refine wk_nil ?_
  |refine wk_cons ?_)
 all_goals exact fa_r (fun _ _=>rfl) (Pm.ent (fin ({x with regs:=x.regs.set ka ⟨0,0,0⟩}:HX) (h1:=by simp[HX.hdr]))) ⟨_,rfl,rfl,rfl⟩
theorem smp_4(h:Sound x.H)(hP:ActP ⟨4,ka,kb,kc,n⟩):FnA Tryd.prog 41 [eV a,.agg #[.int .i64 4,.int .i64 ka,.int .i64 kb,.int .i64 kc,.int .i64 n]] (hp a x) (fun v As=>∃z:HX,v=an 0 0∧As=hp a z∧z.H=x.H.setR ka (x.H.getR kb)):=by
 have hQ:=hP
 simp[ActP,aMost,bMost,cMost]at hQ
 have hnr:x.hdr.nr=x.regs.length:=rfl
 have h16:x.regs.length=16:=h.r1.regs
 obtain⟨w,gw⟩:∃w,x.regs[ka]?=some w:=⟨_,List.getElem?_eq_getElem (by omega)⟩
 obtain⟨v,gv⟩:∃w,x.regs[kb]?=some w:=⟨_,List.getElem?_eq_getElem (by omega)⟩
 rw[getR_at gv]
 refine fnA_of (fun h=>fn41 (by simp) h) ?_
 repeat' (first
  |(refine k_L ?_;first|refine a_p rfl ?_|(refine k_l ?_;refine g_l rfl ?_)|(refine k_i ?_;refine g_i rfl rfl ?_)|(refine k_ls ?_;refine g_ls rfl ?_)|(refine k_st ?_;first|refine g_st rfl rfl rfl rfl ?_|refine g_sw rfl rfl rfl rfl (Nat.le_of_ble_eq_true rfl) ?_)|(refine k_al ?_;refine a_al ?_)|(refine k_bx ?_;refine a_bx rfl rfl ?_)|(refine k_c ?_;refine a_cq rfl (fun m hm=>numE_q) ?_))
  |refine a_n ?_
  |(refine k_V ?_;first|refine v_seq ?_|refine v_reg ?_|refine v_dreg ?_|refine v_bs ?_|refine v_ret ?_|refine v_ct rfl ?_|refine v_cf rfl ?_)
  |refine sk_zero ?_
  |refine sk_succ ?_
  |refine wk_nil ?_
  |refine wk_cons ?_)
 all_goals exact fa_r (fun _ _=>rfl) (Pm.ent (fin ({x with regs:=x.regs.set ka v}:HX) (h1:=by simp[HX.hdr]))) ⟨_,rfl,rfl,rfl⟩
theorem smp_13(h:Sound x.H)(hP:ActP ⟨13,ka,kb,kc,n⟩):FnA Tryd.prog 41 [eV a,.agg #[.int .i64 13,.int .i64 ka,.int .i64 kb,.int .i64 kc,.int .i64 n]] (hp a x) (fun v As=>v=an 0 (if x.H.getR ka=x.H.getR kb then 1 else 0)∧As=hp a x):=by
 have hQ:=hP
 simp[ActP,aMost,bMost,cMost]at hQ
 have hnr:x.hdr.nr=x.regs.length:=rfl
 have h16:x.regs.length=16:=h.r1.regs
 obtain⟨w,gw⟩:∃w,x.regs[ka]?=some w:=⟨_,List.getElem?_eq_getElem (by omega)⟩
 obtain⟨v,gv⟩:∃w,x.regs[kb]?=some w:=⟨_,List.getElem?_eq_getElem (by omega)⟩
 rw[getR_at gv,getR_at gw]
 obtain⟨wk,wn,wat⟩:=w
 obtain⟨vk,vn,vat⟩:=v
 refine fnA_of (fun h=>fn41 (by simp) h) ?_
 repeat' (first
  |(refine k_L ?_;first|refine a_p rfl ?_|(refine k_l ?_;refine g_l rfl ?_)|(refine k_i ?_;refine g_i rfl rfl ?_)|(refine k_ls ?_;refine g_ls rfl ?_)|(refine k_st ?_;refine g_sw rfl rfl rfl rfl (Nat.le_of_ble_eq_true rfl) ?_)|(refine k_al ?_;refine a_al ?_)|(refine k_bx ?_;refine a_bx rfl rfl ?_)|(refine k_c ?_;refine a_cq rfl (fun m hm=>numE_q) ?_))
  |refine a_n ?_
  |(refine k_V ?_;first|refine v_seq ?_|refine v_reg ?_|refine v_dreg ?_|refine v_bs ?_|refine v_ret ?_|refine v_skip ?_|refine v_ct rfl ?_|refine v_cf rfl ?_|(refine v_cond _ rfl (fun hb=>?_) (fun hb=>?_)))
  |refine s_r ?_
  |refine b_r ?_
  |refine sk_zero ?_
  |refine sk_succ ?_
  |refine wk_nil ?_
  |refine wk_cons ?_)
 ·have e:wk=vk∧wn=vn∧wat=vat:=by simpa using hb
  refine fa_r (fun _ _=>rfl) (Pm.ent pmt) ⟨?_,rfl⟩
  rw[if_pos (by rw[e.1,e.2.1,e.2.2])];rfl
 ·have e:¬(wk=vk∧wn=vn∧wat=vat):=fun e=>by
   obtain⟨rfl,rfl,rfl⟩:=e
   simp at hb
  refine fa_r (fun _ _=>rfl) (Pm.ent pmt) ⟨?_,rfl⟩
  rw[if_neg (fun h=>e (by rw[Word.mk.injEq]at h;exact h))];rfl
theorem smp_14(h:Sound x.H)(hP:ActP ⟨14,ka,kb,kc,n⟩):FnA Tryd.prog 41 [eV a,.agg #[.int .i64 14,.int .i64 ka,.int .i64 kb,.int .i64 kc,.int .i64 n]] (hp a x) (fun v As=>v=an 0 (x.H.getR ka).kind∧As=hp a x):=by
 have hQ:=hP
 simp[ActP,aMost,bMost,cMost]at hQ
 have hnr:x.hdr.nr=x.regs.length:=rfl
 have h16:x.regs.length=16:=h.r1.regs
 obtain⟨w,gw⟩:∃w,x.regs[ka]?=some w:=⟨_,List.getElem?_eq_getElem (by omega)⟩
 rw[getR_at gw]
 refine fnA_of (fun h=>fn41 (by simp) h) ?_
 repeat' (first
  |(refine k_L ?_;first|refine a_p rfl ?_|(refine k_l ?_;first|refine a_l rfl (by exact rd_t (rd_h (rd_sl (fun _=>rfl) gw rfl))) ?_|refine g_l rfl ?_)|(refine k_i ?_;refine g_i rfl rfl ?_)|(refine k_st ?_;refine g_sw rfl rfl rfl rfl (Nat.le_of_ble_eq_true rfl) ?_)|(refine k_al ?_;refine a_al ?_)|(refine k_bx ?_;refine a_bx rfl rfl ?_)|(refine k_q ?_;refine a_q rfl (fun m hm=>numE_q) ?_))
  |refine a_n ?_
  |(refine k_V ?_;first|refine v_seq ?_|refine v_reg ?_|refine v_dreg ?_|refine v_bs ?_|refine v_ret ?_|refine v_ct rfl ?_|refine v_cf rfl ?_)
  |refine s_r ?_
  |refine b_r ?_
  |refine sk_zero ?_
  |refine sk_succ ?_
  |refine wk_nil ?_
  |refine wk_cons ?_)
 all_goals exact fa_r (fun _ _=>rfl) (Pm.ent pmt) ⟨rfl,rfl⟩
theorem smp_15(h:Sound x.H)(hP:ActP ⟨15,ka,kb,kc,n⟩):FnA Tryd.prog 41 [eV a,.agg #[.int .i64 15,.int .i64 ka,.int .i64 kb,.int .i64 kc,.int .i64 n]] (hp a x) (fun v As=>v=(if(x.H.getR ka).kind=1 then an 0 (x.H.getR ka).num else an 2 0)∧As=hp a x):=by
 have hQ:=hP
 simp[ActP,aMost,bMost,cMost]at hQ
 have hnr:x.hdr.nr=x.regs.length:=rfl
 have h16:x.regs.length=16:=h.r1.regs
 obtain⟨w,gw⟩:∃w,x.regs[ka]?=some w:=⟨_,List.getElem?_eq_getElem (by omega)⟩
 rw[getR_at gw]
 refine fnA_of (fun h=>fn41 (by simp) h) ?_
 by_cases hk:w.kind=1
 ·rw[if_pos hk]
  repeat' (first
   |(refine k_L ?_;first|refine a_p rfl ?_|(refine k_l ?_;first|refine a_l rfl (by exact rd_t (rd_h (rd_sl (fun _=>rfl) gw rfl))) ?_|refine g_l rfl ?_)|(refine k_i ?_;refine g_i rfl rfl ?_)|(refine k_st ?_;refine g_sw rfl rfl rfl rfl (Nat.le_of_ble_eq_true rfl) ?_)|(refine k_al ?_;refine a_al ?_)|(refine k_bx ?_;refine a_bx rfl rfl ?_))
   |refine a_n ?_
   |(refine k_V ?_;first|refine v_seq ?_|refine v_reg ?_|refine v_dreg ?_|refine v_bs ?_|refine v_ret ?_|refine v_skip ?_|refine v_ct rfl ?_|refine v_cf rfl ?_|(refine v_cn rfl (fun hb=>?_) (fun hb=>?_)<;>try(exfalso;omega)))
   |refine s_r ?_
   |refine b_r ?_
   |refine sk_zero ?_
   |refine sk_succ ?_
   |refine wk_nil ?_
   |refine wk_cons ?_)
  all_goals exact fa_r (fun _ _=>rfl) (Pm.ent pmt) ⟨rfl,rfl⟩
 ·rw[if_neg hk]
  repeat' (first
   |(refine k_L ?_;first|refine a_p rfl ?_|(refine k_l ?_;first|refine a_l rfl (by exact rd_t (rd_h (rd_sl (fun _=>rfl) gw rfl))) ?_|refine g_l rfl ?_)|(refine k_i ?_;refine g_i rfl rfl ?_)|(refine k_st ?_;refine g_sw rfl rfl rfl rfl (Nat.le_of_ble_eq_true rfl) ?_)|(refine k_al ?_;refine a_al ?_)|(refine k_bx ?_;refine a_bx rfl rfl ?_)|(refine k_c ?_;refine a_cq rfl (fun m hm=>codeE_q) ?_))
   |refine a_n ?_
   |(refine k_V ?_;first|refine v_seq ?_|refine v_reg ?_|refine v_dreg ?_|refine v_bs ?_|refine v_ret ?_|refine v_ct rfl ?_|refine v_cf rfl ?_|(refine v_cn rfl (fun hb=>?_) (fun hb=>?_)<;>try(exfalso;omega)))
   |refine s_r ?_
   |refine b_r ?_
   |refine sk_zero ?_
   |refine sk_succ ?_
   |refine wk_nil ?_
   |refine wk_cons ?_)
  all_goals exact fa_r (fun _ _=>rfl) (Pm.ent pmt) ⟨rfl,rfl⟩
end
section
variable {a:Nat} {x:HX} {n:Int} {ka kb kc:Nat}
theorem smp_18(h:Sound x.H)(hP:ActP ⟨18,ka,kb,kc,n⟩):FnA Tryd.prog 41 [eV a,.agg #[.int .i64 18,.int .i64 ka,.int .i64 kb,.int .i64 kc,.int .i64 n]] (hp a x) (fun v As=>∃z:HX,v=an 0 (d2 x.H x.H.cells.length:Nat)∧As=hp a z∧z.H=x.H.settleH):=by
 refine fnA_of (fun h=>fn41 (by simp) h) ?_
 repeat' (first
  |(refine k_L ?_;first|refine a_p rfl ?_|(refine k_st ?_;refine g_sw rfl rfl rfl rfl (Nat.le_of_ble_eq_true rfl) ?_)|(refine k_al ?_;refine a_al ?_)|(refine k_bx ?_;refine a_bx rfl rfl ?_)|(refine k_c ?_;refine a_cq rfl (fun m hm=>numE_q) ?_)|(refine g_c rfl (settle_a (x:=x) h) (fun v As' hq=>?_);obtain⟨z,rfl,rfl,hz⟩:=hq))
  |refine a_n ?_
  |(refine k_V ?_;first|refine v_seq ?_|refine v_reg ?_|refine v_bs ?_|refine v_ret ?_|refine v_ct rfl ?_|refine v_cf rfl ?_)
  |refine s_r ?_
  |refine b_r ?_
  |refine sk_zero ?_
  |refine sk_succ ?_
  |refine wk_nil ?_
  |refine wk_cons ?_)
 all_goals exact fa_r (fun _ _=>rfl) (Pm.ent pmt) ⟨z,rfl,rfl,hz⟩
theorem smp_19(h:Sound x.H)(hP:ActP ⟨19,ka,kb,kc,n⟩):FnA Tryd.prog 41 [eV a,.agg #[.int .i64 19,.int .i64 ka,.int .i64 kb,.int .i64 kc,.int .i64 n]] (hp a x) (fun v As=>∃z:HX,v=an (doDue x.H ⟨19,ka,kb,kc,n⟩).code (doDue x.H ⟨19,ka,kb,kc,n⟩).num∧As=hp a z∧z.H=(doDue x.H ⟨19,ka,kb,kc,n⟩).heap):=by
 have hQ:=hP
 simp[ActP,aMost,bMost,cMost]at hQ
 have hnr:x.hdr.nr=x.regs.length:=rfl
 have h16:x.regs.length=16:=h.r1.regs
 obtain⟨w,gw⟩:∃w,x.regs[ka]?=some w:=⟨_,List.getElem?_eq_getElem (by omega)⟩
 have hl:=x.len
 have hnc:x.hdr.nc=x.xs.length:=rfl
 unfold doDue
 dsimp only
 refine fnA_of (fun h=>fn41 (by simp) h) ?_
 by_cases c:ndG x.H x.H.cells.length<0
 ·rw[if_pos c]
  repeat' (first
   |(refine k_L ?_;first|(refine k_l ?_;refine g_l rfl ?_)|(refine k_i ?_;refine g_i rfl rfl ?_)|(refine k_st ?_;first|refine g_st rfl rfl rfl rfl ?_|refine g_sw rfl rfl rfl rfl (Nat.le_of_ble_eq_true rfl) ?_)|(refine k_al ?_;refine a_al ?_)|(refine k_bx ?_;refine a_bx rfl rfl ?_)|(refine k_c ?_;first|refine a_cq rfl (fun m hm=>numE_q) ?_|refine a_cq rfl (fun m hm=>nextDueLoop_q (x:=x) (sep_has hm pmt) h.r2) ?_)|(refine b_w ⟨0,0,0⟩ rfl ?_)|(refine b_p rfl ?_))
   |refine a_n ?_
   |(refine k_V ?_;first|refine v_seq ?_|refine v_reg ?_|refine v_dreg ?_|refine v_bs ?_|refine v_ret ?_|refine v_ct rfl ?_|refine v_cf rfl ?_|(refine v_cd rfl (fun hb=>?_) (fun hb=>?_)<;>try(exfalso;omega)))
   |refine s_r ?_
   |refine b_r ?_
   |refine sk_zero ?_
   |refine sk_succ ?_
   |refine wk_nil ?_
   |refine wk_cons ?_)
  all_goals exact fa_r (fun _ _=>rfl) (Pm.ent (fin ({x with regs:=x.regs.set ka ⟨0,0,0⟩}:HX) (h1:=by simp[HX.hdr]))) ⟨_,rfl,rfl,rfl⟩
 ·rw[if_neg c]
  obtain⟨j,hj⟩:=Int.eq_ofNat_of_zero_le (show 0≤ndG x.H x.H.cells.length by omega)
  have hjl:=(ndG_lt x.H x.H.cells.length).2
  rw[hj]at hjl⊢
  obtain⟨y,gy,gc⟩:=HX.at (x:=x) (i:=j) (by omega)
  have gk:=HX.gc gy
  repeat' (first
   |(refine k_L ?_;first|(refine k_l ?_;refine g_l rfl ?_)|(refine k_i ?_;refine g_i rfl rfl ?_)|(refine k_st ?_;first|refine g_st rfl rfl rfl rfl ?_|refine g_sw rfl rfl rfl rfl (Nat.le_of_ble_eq_true rfl) ?_)|(refine k_al ?_;refine a_al ?_)|(refine k_bx ?_;refine a_bx rfl rfl ?_)|(refine k_c ?_;first|refine a_cq rfl (fun m hm=>numE_q) ?_|refine a_cq rfl (fun m hm=>qt_e (nextDueLoop_q (x:=x) (sep_has hm pmt) h.r2) (by rw[hj])) ?_)|(refine b_w ⟨2,0,j⟩ rfl ?_)|(refine b_p rfl ?_))
   |refine a_n ?_
   |(refine k_V ?_;first|refine v_seq ?_|refine v_reg ?_|refine v_dreg ?_|refine v_bs ?_|refine v_ret ?_|refine v_skip ?_|refine v_ct rfl ?_|refine v_cf rfl ?_)
   |refine s_r ?_
   |refine b_r ?_
   |refine sk_zero ?_
   |refine sk_succ ?_
   |refine wk_nil ?_
   |refine wk_cons ?_)
  refine fa_r (fun _ _=>rfl) (Pm.ent (fin ({x with xs:=x.xs.set j (y.s_last 3),regs:=x.regs.set ka ⟨2,0,j⟩}:HX) (h1:=by simp[HX.hdr]) (h2:=by simp[HX.hdr]) (e1:=by simp[HX.hdr]))) ⟨_,rfl,rfl,?_⟩
  unfold Heap.putL Heap.setR
  rw[Int.toNat_natCast,gk]
  unfold HX.H
  simp only[List.map_set];rfl
theorem smp_20(h:Sound x.H)(hP:ActP ⟨20,ka,kb,kc,n⟩):FnA Tryd.prog 41 [eV a,.agg #[.int .i64 20,.int .i64 ka,.int .i64 kb,.int .i64 kc,.int .i64 n]] (hp a x) (fun v As=>v=an 0 (sumT x.H (heldL x.H) x.H.cells.length)∧As=hp a x):=by
 refine fna_rd fun m hm=>?_
 have hh:Has m (hp a x):=⟨m,Mem.le_refl _,hm⟩
 refine fnA_of (fun h=>fn41 (by simp) h) ?_
 repeat' (first
  |(refine k_L ?_;first|refine a_p rfl ?_|(refine k_al ?_;refine a_al ?_)|(refine k_bx ?_;refine a_bx rfl rfl ?_))
  |refine a_n ?_
  |(refine k_V ?_;first|refine v_seq ?_|refine v_reg ?_|refine v_bs ?_|refine v_ct rfl ?_|refine v_cf rfl ?_))
 refine v_hreg (Gs:=[ro m]) [] pmt ?_
 repeat' (first
  |(refine k_L ?_;first|refine a_p rfl ?_|(refine k_st ?_;refine g_sw rfl rfl rfl rfl (Nat.le_of_ble_eq_true rfl) ?_)|(refine k_c ?_;refine a_cq rfl (fun m hm=>numE_q) ?_)|(refine g_c rfl (holds_a (x:=x) hh h.r1 h.r2 h.r4) (fun v As' hq=>?_);obtain⟨sd,rfl,rfl⟩:=hq)|(refine g_c rfl (sum_a (x:=x) (L:=heldL x.H) (sd:=sd) hh h.r1 h.r2 (by rw[heldL_len,x.len])) (fun v As' hq=>?_);obtain⟨rfl,rfl⟩:=hq))
  |refine a_n ?_
  |(refine k_V ?_;refine v_ret ?_)
  |refine s_r ?_
  |refine b_r ?_
  |refine sk_zero ?_
  |refine sk_succ ?_
  |refine wk_nil ?_
  |refine wk_cons ?_
  |refine t_a ?_ t_n
  |refine t_f ?_ t_n
  |refine t_d ?_
  |refine kl_1 rfl ?_
  |refine kl_0 ?_)
 all_goals exact fa_r (As':=[ro m]) (fun _ _=>rfl) (Pm.ent pmt) ⟨by rw[x.len];rfl,rfl⟩
theorem smp_21(h:Sound x.H)(hP:ActP ⟨21,ka,kb,kc,n⟩):FnA Tryd.prog 41 [eV a,.agg #[.int .i64 21,.int .i64 ka,.int .i64 kb,.int .i64 kc,.int .i64 n]] (hp a x) (fun v As=>v=an 0 (sumT x.H (reachL x.H) x.H.cells.length)∧As=hp a x):=by
 refine fna_rd fun m hm=>?_
 have hh:Has m (hp a x):=⟨m,Mem.le_refl _,hm⟩
 refine fnA_of (fun h=>fn41 (by simp) h) ?_
 repeat' (first
  |(refine k_L ?_;first|refine a_p rfl ?_|(refine k_al ?_;refine a_al ?_)|(refine k_bx ?_;refine a_bx rfl rfl ?_))
  |refine a_n ?_
  |(refine k_V ?_;first|refine v_seq ?_|refine v_reg ?_|refine v_bs ?_|refine v_ct rfl ?_|refine v_cf rfl ?_))
 refine v_hreg (Gs:=[ro m]) [] pmt ?_
 repeat' (first
  |(refine k_L ?_;first|refine a_p rfl ?_|(refine k_st ?_;refine g_sw rfl rfl rfl rfl (Nat.le_of_ble_eq_true rfl) ?_)|(refine k_c ?_;refine a_cq rfl (fun m hm=>numE_q) ?_)|(refine g_c rfl (reach_a (x:=x) hh h.r1 h.r2 h.r4) (fun v As' hq=>?_);obtain⟨sd,rfl,rfl⟩:=hq)|(refine g_c rfl (sum_a (x:=x) (L:=reachL x.H) (sd:=sd) hh h.r1 h.r2 (by rw[reachL_len,x.len])) (fun v As' hq=>?_);obtain⟨rfl,rfl⟩:=hq))
  |refine a_n ?_
  |(refine k_V ?_;refine v_ret ?_)
  |refine s_r ?_
  |refine b_r ?_
  |refine sk_zero ?_
  |refine sk_succ ?_
  |refine wk_nil ?_
  |refine wk_cons ?_
  |refine t_a ?_ t_n
  |refine t_f ?_ t_n
  |refine t_d ?_
  |refine kl_1 rfl ?_
  |refine kl_0 ?_)
 all_goals exact fa_r (As':=[ro m]) (fun _ _=>rfl) (Pm.ent pmt) ⟨by rw[x.len];rfl,rfl⟩
theorem smp_22(h:Sound x.H)(hP:ActP ⟨22,ka,kb,kc,n⟩):FnA Tryd.prog 41 [eV a,.agg #[.int .i64 22,.int .i64 ka,.int .i64 kb,.int .i64 kc,.int .i64 n]] (hp a x) (fun v As=>∃z:HX,v=an 0 0∧As=hp a z∧z.H=x.H.stepH kc):=by
 have hQ:=hP
 simp[ActP,aMost,bMost,cMost]at hQ
 refine fnA_of (fun h=>fn41 (by simp) h) ?_
 by_cases c:kc=0
 ·subst c
  have e:x.H.stepH (0:Nat)=x.H:=by unfold Heap.stepH;rfl
  rw[e]
  repeat' (first
   |(refine k_L ?_;first|refine a_p rfl ?_|(refine k_g ?_;refine a_gy rfl rfl ?_)|(refine k_st ?_;refine g_sw rfl rfl rfl rfl (Nat.le_of_ble_eq_true rfl) ?_)|(refine k_al ?_;refine a_al ?_)|(refine k_bx ?_;refine a_bx rfl rfl ?_)|(refine k_c ?_;refine a_cq rfl (fun m hm=>numE_q) ?_))
   |refine a_n ?_
   |(refine k_V ?_;first|refine v_seq ?_|refine v_reg ?_|refine v_bs ?_|refine v_ret ?_|refine v_skip ?_|refine v_ct rfl ?_|refine v_cf rfl ?_)
   |refine sk_zero ?_
   |refine sk_succ ?_
   |refine wk_nil ?_
   |refine wk_cons ?_)
  all_goals exact fa_r (fun _ _=>rfl) (Pm.ent pmt) ⟨x,rfl,rfl,rfl⟩
 ·have hn:(kc:Int)≠0:=by omega
  have pb:x.begin.H=x.H.beginH:=begin_H
  have hsb:Sound x.begin.H:=by
   rw[pb];unfold Heap.beginH
   split
   ·exact begin_sound h ‹_›
   ·exact h
  repeat' (first
   |(refine k_L ?_;first|refine a_p rfl ?_|(refine k_g ?_;refine a_gy rfl rfl ?_)|(refine k_st ?_;refine g_sw rfl rfl rfl rfl (Nat.le_of_ble_eq_true rfl) ?_)|(refine k_al ?_;refine a_al ?_)|(refine k_bx ?_;refine a_bx rfl rfl ?_)|(refine k_c ?_;refine a_cq rfl (fun m hm=>numE_q) ?_)|(refine g_c rfl (begin_a (x:=x)) (fun v As' hq=>?_);subst hq)|(refine g_c rfl (step_a (x:=x.begin) (n:=(kc:Int)) hsb (by omega)) (fun v As' hq=>?_);obtain⟨z,rfl,rfl,hz⟩:=hq))
   |refine a_n ?_
   |(refine k_V ?_;first|refine v_seq ?_|refine v_reg ?_|refine v_bs ?_|refine v_ret ?_|refine v_ct rfl ?_|refine v_cf rfl ?_|(refine v_cd rfl (fun hb=>?_) (fun hb=>?_)<;>try(exfalso;omega)))
   |refine sk_zero ?_
   |refine sk_succ ?_
   |refine wk_nil ?_
   |refine wk_cons ?_)
  all_goals first
   |(exfalso;omega)
   |exact fa_r (fun _ _=>rfl) (Pm.ent pmt) ⟨z,rfl,rfl,by rw[hz,pb];unfold Heap.stepH stepN;rw[if_neg hn,if_neg hn]⟩
theorem smp_23(h:Sound x.H)(hP:ActP ⟨23,ka,kb,kc,n⟩):FnA Tryd.prog 41 [eV a,.agg #[.int .i64 23,.int .i64 ka,.int .i64 kb,.int .i64 kc,.int .i64 n]] (hp a x) (fun v As=>∃z:HX,v=an 0 0∧As=hp a z∧z.H={x.H with per:=kb,start:=kc}):=by
 refine fnA_of (fun h=>fn41 (by simp) h) ?_
 repeat' (first
  |(refine k_L ?_;first|refine a_p rfl ?_|(refine k_al ?_;refine a_al ?_)|(refine k_bx ?_;refine a_bx rfl rfl ?_))
  |refine a_n ?_
  |(refine k_V ?_;first|refine v_seq ?_|refine v_reg ?_|refine v_bs ?_|refine v_ct rfl ?_|refine v_cf rfl ?_))
 refine v_hreg (Gs:=hp a x) [] pmt ?_
 repeat' (first
  |(refine k_L ?_;first|refine a_p rfl ?_|(refine k_st ?_;first|refine g_st rfl rfl rfl rfl ?_|refine g_sw rfl rfl rfl rfl (Nat.le_of_ble_eq_true rfl) ?_)|(refine k_c ?_;refine a_cq rfl (fun m hm=>numE_q) ?_))
  |refine a_n ?_
  |(refine k_V ?_;first|refine v_seq ?_|refine v_reg ?_|refine v_ret ?_)
  |refine sk_zero ?_
  |refine sk_succ ?_
  |refine wk_nil ?_
  |refine wk_cons ?_
  |refine t_a ?_ t_n
  |refine t_f ?_ t_n
  |refine t_d ?_
  |refine kl_1 rfl ?_
  |refine kl_0 ?_)
 all_goals exact fa_r (fun _ _=>rfl) (Pm.ent (fin ({x with per:=kb,start:=kc}:HX))) ⟨_,rfl,rfl,rfl⟩
theorem smp_24(h:Sound x.H)(hP:ActP ⟨24,ka,kb,kc,n⟩):FnA Tryd.prog 41 [eV a,.agg #[.int .i64 24,.int .i64 ka,.int .i64 kb,.int .i64 kc,.int .i64 n]] (hp a x) (fun v As=>∃z:HX,v=an 0 0∧As=hp a z∧z.H=x.H.roundH):=by
 refine fnA_of (fun h=>fn41 (by simp) h) ?_
 repeat' (first
  |(refine k_L ?_;first|refine a_p rfl ?_|(refine k_st ?_;refine g_sw rfl rfl rfl rfl (Nat.le_of_ble_eq_true rfl) ?_)|(refine k_al ?_;refine a_al ?_)|(refine k_bx ?_;refine a_bx rfl rfl ?_)|(refine k_c ?_;refine a_cq rfl (fun m hm=>numE_q) ?_)|(refine g_c rfl (round_a (x:=x) h) (fun v As' hq=>?_);obtain⟨z,rfl,hz⟩:=hq))
  |refine a_n ?_
  |(refine k_V ?_;first|refine v_seq ?_|refine v_reg ?_|refine v_bs ?_|refine v_ret ?_|refine v_ct rfl ?_|refine v_cf rfl ?_)
  |refine sk_zero ?_
  |refine sk_succ ?_
  |refine wk_nil ?_
  |refine wk_cons ?_)
 all_goals exact fa_r (fun _ _=>rfl) (Pm.ent pmt) ⟨z,rfl,rfl,hz⟩
end
def outE(a:Nat)(o:Out):Value→List Asr→Prop:=fun v As=>∃z:HX,v=an o.code o.num∧As=hp a z∧z.H=o.heap
section
variable {a:Nat} {x:HX} {op n:Int} {ka kb kc:Nat} {o:Out}
theorem smp_1(h:Sound x.H)(ha:ka≤15)(hb:kb≤255)(hc:kc≤200):FnA Tryd.prog 41 [eV a,.agg #[.int .i64 1,.int .i64 ka,.int .i64 kb,.int .i64 kc,.int .i64 n]] (hp a x) (outE a (doNew x.H ⟨1,ka,kb,kc,n⟩)):=by
 refine fnA_of (fun h=>fn41 (by simp) h) ?_
 repeat' (first
  |(refine k_L ?_;first|refine a_p rfl ?_|(refine k_st ?_;refine g_sw rfl rfl rfl rfl (Nat.le_of_ble_eq_true rfl) ?_)|(refine k_al ?_;refine a_al ?_)|(refine k_bx ?_;refine a_bx rfl rfl ?_)|(refine g_c rfl (make_a (x:=x) (op:=1) (n:=n) h ha hb hc) (fun v As' hq=>?_);obtain⟨z,rfl,rfl,hz⟩:=hq))
  |refine a_n ?_
  |(refine k_V ?_;first|refine v_seq ?_|refine v_reg ?_|refine v_bs ?_|refine v_ret ?_|refine v_ct rfl ?_)
  |refine s_r ?_
  |refine b_r ?_
  |refine sk_zero ?_
  |refine sk_succ ?_
  |refine wk_nil ?_
  |refine wk_cons ?_)
 exact fa_r (fun _ _=>rfl) (Pm.ent pmt) ⟨z,rfl,rfl,hz⟩
theorem doS(hop:¬(5≤op∧op≤12)∧op≠16∧op≠17)(hs:FnA Tryd.prog 41 [eV a,.agg #[.int .i64 op,.int .i64 ka,.int .i64 kb,.int .i64 kc,.int .i64 n]] (hp a x) (outE a o)):
 FnA Tryd.prog 39 [eV a,.agg #[.int .i64 op,.int .i64 ka,.int .i64 kb,.int .i64 kc,.int .i64 n]] (hp a x) (outE a o):=by
 refine fnA_of (fun h=>fn39 (by simp) h) ?_
 repeat' (first
  |(refine k_L ?_;first|refine a_p rfl ?_|(refine k_st ?_;refine g_sw rfl rfl rfl rfl (Nat.le_of_ble_eq_true rfl) ?_)|(refine k_al ?_;refine a_al ?_)|(refine k_bx ?_;refine a_bx rfl rfl ?_)|(refine g_c rfl hs (fun v As' hq=>?_);obtain⟨z,rfl,rfl,hz⟩:=hq))
  |refine a_n ?_
  |(refine k_V ?_;first|refine v_seq ?_|refine v_reg ?_|refine v_bs ?_|refine v_ret ?_|(refine v_cd rfl (fun hb=>?_) (fun hb=>?_)<;>try(exfalso;omega)))
  |refine s_r ?_
  |refine b_r ?_
  |refine sk_zero ?_
  |refine sk_succ ?_
  |refine wk_nil ?_
  |refine wk_cons ?_)
 all_goals exact fa_r (fun _ _=>rfl) (Pm.ent pmt) ⟨z,rfl,rfl,hz⟩
end
theorem doE_a{a:Nat}{x:HX}{op n:Int}{ka kb kc:Nat}(h:Sound x.H)(hP:ActP ⟨op,ka,kb,kc,n⟩):FnA Tryd.prog 39 [eV a,.agg #[.int .i64 op,.int .i64 ka,.int .i64 kb,.int .i64 kc,.int .i64 n]] (hp a x) (outE a (doA x.H ⟨op,ka,kb,kc,n⟩)):=by
 have hP0:=hP
 obtain⟨⟨h1,h2⟩,h3,⟨h4,h4'⟩,⟨h5,h5'⟩,h6,h6'⟩:=hP0
 dsimp only at h1 h2 h4 h5 h6 h4' h5' h6'
 have ka15:ka≤15:=by have:=aMost_le op;omega
 have ho:op=1∨op=2∨op=3∨op=4∨op=5∨op=6∨op=7∨op=8∨op=9∨op=10∨op=11∨op=12∨op=13∨op=14∨op=15∨op=16∨op=17∨op=18∨op=19∨op=20∨op=21∨op=22∨op=23∨op=24:=by omega
 rcases ho with rfl|rfl|rfl|rfl|rfl|rfl|rfl|rfl|rfl|rfl|rfl|rfl|rfl|rfl|rfl|rfl|rfl|rfl|rfl|rfl|rfl|rfl|rfl|rfl
 ·simp[bMost,cMost]at h5' h6'
  exact doS (by omega) (smp_1 h ka15 (by omega) (by omega))
 ·exact doS (by omega) (smp_2 h hP)
 ·exact doS (by omega) (smp_3 h hP)
 ·exact doS (by omega) (smp_4 h hP)
 ·simp[bMost,cMost]at h5' h6'
  exact doE_rd h ka15 (by omega) (by omega)
 ·simp[bMost,cMost]at h5' h6'
  exact doE_rd h ka15 (by omega) (by omega)
 ·simp[bMost,cMost]at h5' h6'
  exact doE_wr h ka15 (by omega) (by omega)
 ·simp[bMost,cMost]at h5' h6'
  exact doE_wr h ka15 (by omega) (by omega)
 ·simp[bMost,cMost]at h5' h6'
  exact doE_cell h ka15 (by omega) (by omega)
 ·simp[bMost,cMost]at h5' h6'
  exact doE_cell h ka15 (by omega) (by omega)
 ·simp[bMost,cMost]at h5' h6'
  exact doE_cell h ka15 (by omega) (by omega)
 ·simp[bMost,cMost]at h5' h6'
  exact doE_last h ka15 (by omega) rfl
 ·exact doS (by omega) ((smp_13 h hP).mono fun v As hq=>⟨x,hq.1,hq.2,rfl⟩)
 ·exact doS (by omega) ((smp_14 h hP).mono fun v As hq=>⟨x,hq.1,hq.2,rfl⟩)
 ·refine doS (by omega) ((smp_15 h hP).mono fun v As hq=>⟨x,?_,hq.2,?_⟩)
  ·rw[hq.1]
   show _=an (if(x.H.getR ka).kind=1 then(⟨x.H,0,(x.H.getR ka).num⟩:Out)else⟨x.H,2,0⟩).code (if(x.H.getR ka).kind=1 then(⟨x.H,0,(x.H.getR ka).num⟩:Out)else⟨x.H,2,0⟩).num
   split<;>rfl
  ·show x.H=(if(x.H.getR ka).kind=1 then(⟨x.H,0,(x.H.getR ka).num⟩:Out)else⟨x.H,2,0⟩).heap
   split<;>rfl
 ·simp[bMost,cMost]at h5' h6'
  exact doE_cell h ka15 (by omega) (by omega)
 ·simp[bMost,cMost]at h5' h6'
  exact doE_cell h ka15 (by omega) (by omega)
 ·exact doS (by omega) (smp_18 h hP)
 ·exact doS (by omega) (smp_19 h hP)
 ·exact doS (by omega) ((smp_20 h hP).mono fun v As hq=>⟨x,hq.1,hq.2,rfl⟩)
 ·exact doS (by omega) ((smp_21 h hP).mono fun v As hq=>⟨x,hq.1,hq.2,rfl⟩)
 ·exact doS (by omega) (smp_22 h hP)
 ·exact doS (by omega) (smp_23 h hP)
 ·exact doS (by omega) (smp_24 h hP)
theorem act_a{m:Mem}{a:Nat}{x:HX}{b:Act}(hf:Frm m)(h:Sound x.H):FnA Tryd.prog 27 [eV a,actV b] (hp a x++[ro m]) (fun v As=>∃z:HX,v=an (actA x.H b).code (actA x.H b).num∧As=hp a z++[ro m]∧z.H=(actA x.H b).heap):=by
 obtain⟨op,aa,ab,ac,n⟩:=b
 refine fnA_of (fun h=>fn27 (by simp) h) ?_
 by_cases hP:ActP ⟨op,aa,ab,ac,n⟩
 ·have e:actA x.H ⟨op,aa,ab,ac,n⟩=doA x.H ⟨op,aa,ab,ac,n⟩:=by unfold actA;rw[if_pos hP]
  rw[e]
  have hP0:=hP
  obtain⟨_,_,⟨h4,_⟩,⟨h5,_⟩,h6,_⟩:=hP0
  dsimp only at h4 h5 h6
  obtain⟨ka,rfl⟩:=Int.eq_ofNat_of_zero_le h4
  obtain⟨kb,rfl⟩:=Int.eq_ofNat_of_zero_le h5
  obtain⟨kc,rfl⟩:=Int.eq_ofNat_of_zero_le h6
  repeat' (first
   |(refine k_L ?_;first|refine a_p rfl ?_|(refine k_st ?_;refine g_sw rfl rfl rfl rfl (Nat.le_of_ble_eq_true rfl) ?_)|(refine k_al ?_;refine a_al ?_)|(refine k_bx ?_;refine a_bx rfl rfl ?_)|(refine k_c ?_;refine a_cq rfl (fun m hm=>qt_e (implActOk_q (a:=⟨op,ka,kb,kc,n⟩) (hf.le (ro_of hm pmt))) (congrArg Value.bool (decide_eq_true hP))) ?_)|(refine g_c rfl (doE_a (x:=x) (op:=op) (n:=n) (ka:=ka) (kb:=kb) (kc:=kc) h hP) (fun v As' hq=>?_);obtain⟨z,rfl,rfl,hz⟩:=hq))
   |refine a_n ?_
   |(refine k_V ?_;first|refine v_seq ?_|refine v_reg ?_|refine v_ret ?_|refine v_skip ?_|refine v_cf rfl ?_)
   |refine sk_zero ?_
   |refine sk_succ ?_
   |refine wk_nil ?_
   |refine wk_cons ?_)
  all_goals exact fa_r (As':=hp a z++[ro m]) (fun _ _=>rfl) (Pm.ent pmt) ⟨z,rfl,rfl,hz⟩
 ·have e:actA x.H ⟨op,aa,ab,ac,n⟩=⟨x.H,1,0⟩:=by unfold actA;rw[if_neg hP]
  rw[e]
  repeat' (first
   |(refine k_L ?_;first|refine a_p rfl ?_|(refine k_st ?_;refine g_sw rfl rfl rfl rfl (Nat.le_of_ble_eq_true rfl) ?_)|(refine k_al ?_;refine a_al ?_)|(refine k_bx ?_;refine a_bx rfl rfl ?_)|(refine k_c ?_;first|refine a_cq rfl (fun m hm=>codeE_q) ?_|refine a_cq rfl (fun m hm=>qt_e (implActOk_q (a:=⟨op,aa,ab,ac,n⟩) (hf.le (ro_of hm pmt))) (congrArg Value.bool (decide_eq_false hP))) ?_))
   |refine a_n ?_
   |(refine k_V ?_;first|refine v_seq ?_|refine v_reg ?_|refine v_ret ?_|refine v_ct rfl ?_)
   |refine s_r ?_
   |refine sk_zero ?_
   |refine sk_succ ?_
   |refine wk_nil ?_
   |refine wk_cons ?_)
  all_goals exact fa_r (As':=hp a x++[ro m]) (fun _ _=>rfl) (Pm.ent pmt) ⟨x,rfl,rfl,rfl⟩
theorem mcMid_add(n u i:Nat):mcMid n u (i+1)=mcMid n u i++[⟨7,0,1,i,0⟩]++[⟨1,2,0,0,0⟩]++[⟨8,0,2,i,0⟩]++[⟨22,0,0,u,0⟩]++[⟨4,1,2,0,0⟩]:=by
 rw[mcMid_succ]
 simp only[mcLoop,List.append_assoc,List.cons_append,List.nil_append]
theorem mcL_add(i u:Nat):mcL i u=mcMid i u i++[⟨3,1,0,0,0⟩]++[⟨3,2,0,0,0⟩]++[⟨18,0,0,0,0⟩]++[⟨22,0,0,u,0⟩]++[⟨17,0,0,0,0⟩]++[⟨20,0,0,0,0⟩]++[⟨3,3,0,0,0⟩]++[⟨20,0,0,0,0⟩]++[⟨18,0,0,0,0⟩]++[⟨22,0,0,u,0⟩]++[⟨17,0,0,0,0⟩]++[⟨21,0,0,0,0⟩]:=by
 unfold mcL mcTail
 simp only[List.append_assoc,List.cons_append,List.nil_append]
theorem madeChain_a{n u:Nat}{As:List Asr}(hn:1≤n∧n≤60)(hu:u≤20):FnA Tryd.prog 7 [.int .i64 n,.int .i64 u] As (fun v As'=>∃d:D,v=.slice d.a (mcL n u).length d.cap∧As'=slA 5 av d (mcL n u)::As):=by
 refine fnA_of (fun h=>fn7 (by simp) h) ?_
 refine VA.ent (ent_new (f:=av) (size:=5)) ?_
 repeat' (first
  |(refine k_L ?_;refine a_p rfl ?_)
  |refine a_n ?_
  |(refine k_V ?_;first|refine v_seq ?_|refine v_reg ?_))
 refine g_c rfl (l6add_a (l:=[]) (sd:=⟨none,0⟩) (by simp)) (fun v As' hq=>?_)
 obtain⟨e1,rfl,rfl⟩:=hq
 repeat' (first
  |(refine k_L ?_;first|refine a_p rfl ?_|(refine g_c rfl (l6add_a (by simp)) (fun v As' hq=>?_);obtain⟨e',rfl,rfl⟩:=hq))
  |refine a_n ?_
  |(refine k_V ?_;first|refine v_seq ?_|refine v_reg ?_)
  |refine s_n ?_)
 refine v_blk ?_
 refine v_loop (fun q:Nat×D=>[(0,SV.v (.int .i64 n)),(1,SV.v (.int .i64 u)),(5,SV.v (.slice q.2.a (mcMid n u q.1).length q.2.cap)),(6,SV.v (.int .i64 q.1))]) (fun q=>slA 5 av q.2 (mcMid n u q.1)::As) (fun k q=>k=n-q.1∧q.1≤n) ⟨_,(0,e'),⟨rfl,rfl,rfl,rfl,trivial⟩,Ent.refl _,rfl,Nat.zero_le _⟩ ?_
 rintro k ⟨i,d⟩ ⟨rfl,hi⟩
 dsimp only at hi⊢
 have hl:=mcMid_len n u i
 by_cases hin:i<n
 ·repeat' (first
   |(refine k_L ?_;first|(refine k_ad ?_;refine g_ad rfl rfl ?_)|refine a_p rfl ?_|(refine g_c rfl (l6add_a (by first|omega|(simp;omega))) (fun v As' hq=>?_);obtain⟨e',rfl,rfl⟩:=hq))
   |refine a_n ?_
   |(refine k_V ?_;first|refine v_seq ?_|refine v_reg ?_|refine v_bs ?_|refine v_skip ?_|(refine v_cd rfl (fun hb=>?_) (fun hb=>?_)<;>try(exfalso;omega)))
   |refine s_n ?_)
  exact⟨n-(i+1),(i+1,e'),by omega,⟨rfl,rfl,by dsimp only;rw[mcMid_add];rfl,rfl,trivial⟩,by dsimp only;rw[mcMid_add];exact Ent.refl _,rfl,by dsimp only;omega⟩
 ·have hie:i=n:=by omega
  subst hie
  repeat' (first
   |(refine k_L ?_;first|refine a_p rfl ?_|(refine g_c rfl (l6add_a (by first|omega|(simp;omega))) (fun v As' hq=>?_);obtain⟨e',rfl,rfl⟩:=hq))
   |refine a_n ?_
   |(refine k_V ?_;first|refine v_seq ?_|refine v_reg ?_|refine v_ret ?_|refine v_exit ?_|(refine v_cd rfl (fun hb=>?_) (fun hb=>?_)<;>try(exfalso;omega))))
  exact fa_r (fun _ _=>rfl) (Ent.refl _) ⟨e',by rw[mcL_add],by rw[mcL_add];rfl⟩
theorem rem_q{P:Program}{r:List I}{d:Option Nat}{post:St→List Asr→Prop}{S:St}{As:List Asr}{x y:Operand}{a b c:Int}(hx:ev S x=some (.int .i64 a))(hy:ev S y=some (.int .i64 b))(hb:b≠0)(hc:a.tmod b=c)(hr: -9223372036854775808≤c∧c≤9223372036854775807)(hp:LA P r post (put S d (.v (.int .i64 c))) As):LA P (⟨d,none,.bin .rem x y⟩::r) post S As:=
 a_p (sv:=.v (.int .i64 c)) (by simp only[pe,hx,hy,binV,binI,if_true,if_neg hb,Option.map_some,hc]) hp
theorem fnChain_q{ca:Option Addr}{cn cc:Nat}{m:Mem}(hf:Frm m)(hc:Cod m ca cn):Qt Tryd.prog 3 [.slice ca cn cc] m (.bool true):=by
 have hbd:=hc.bd
 refine qt_of (fnA_of (fun h=>fn3 (by simp) h) ?_)
 by_cases hn:(cn:Int)>1048576
 ·repeat' (first
   |(refine k_L ?_;refine a_p rfl ?_)
   |refine a_n ?_
   |(refine k_V ?_;first|refine v_rv ?_|refine v_seq ?_|refine v_reg ?_|(refine v_cd rfl (fun hb=>?_) (fun hb=>?_)<;>try(exfalso;omega)))
   |refine s_r ?_)
  exact fa_q (by simp) (fun _ _=>rfl) rfl
 obtain⟨a,ha,qa⟩:=wByte_q (cc:=cc) (i:=0) hc (by omega)
 obtain⟨b,hbb,qb⟩:=wByte_q (cc:=cc) (i:=1) hc (by omega)
 obtain⟨n,en⟩:∃n:Nat,a.tmod 60=n:=⟨_,(Int.toNat_of_nonneg (Int.tmod_nonneg _ ha.1)).symm⟩
 obtain⟨u,eu⟩:∃u:Nat,b.tmod 21=u:=⟨_,(Int.toNat_of_nonneg (Int.tmod_nonneg _ hbb.1)).symm⟩
 have n60:=Int.tmod_lt_of_pos a (by omega:(0:Int)<60)
 have u20:=Int.tmod_lt_of_pos b (by omega:(0:Int)<21)
 rw[en]at n60
 rw[eu]at u20
 have e1:(1:Int)+n=((n+1:Nat):Int):=by omega
 have hI:=nw_im (H:=Heap.nw 1000) (nw_sound (by omega)) rfl rfl rfl
 have hrun:=(hI.run (mcL (n+1) u) (by show 0+_<_;unfold mcL;rw[List.length_append,mcMid_len];simp[mcTail];omega)).1
 obtain⟨k1,k2,k3⟩:=chain_ok (n:=n+1) (u:=u) (by omega) (by omega)
 change ansL (Heap.nw 1000) (mcL (n+1) u)=ansI ⟨1000,List.replicate 16 W0,[]⟩ (mcL (n+1) u)at hrun
 rw[←hrun]at k1 k2 k3
 have hlen:(mcL (n+1) u).length=(ansL (Heap.nw 1000) (mcL (n+1) u)).length:=(ansL_len _ _).symm
 have hle:(mcL (n+1) u).length≤1000:=by unfold mcL;rw[List.length_append,mcMid_len];simp[mcTail];omega
 repeat' (first
  |(refine k_L ?_;first|(refine k_ad ?_;refine g_ad rfl rfl ?_)|(refine k_c ?_;first|refine a_cq rfl (fun m hm=>qa _ (ro_of hm pmt)) ?_|refine a_cq rfl (fun m hm=>qb _ (ro_of hm pmt)) ?_)|(refine rem_q rfl rfl (by omega) en (by omega) ?_)|(refine rem_q rfl rfl (by omega) eu (by omega) ?_)|(refine b_p rfl ?_))
  |refine a_n ?_
  |(refine k_V ?_;first|refine v_seq ?_|refine v_reg ?_|refine v_skip ?_|(refine v_cd rfl (fun hb=>?_) (fun hb=>?_)<;>try(exfalso;omega))))
 rw[e1]
 refine g_c rfl (madeChain_a (n:=n+1) (u:=u) (As:=[ro m]) (by omega) (by omega)) (fun v As' hq=>?_)
 obtain⟨d,rfl,rfl⟩:=hq
 repeat' (first
  |(refine k_L ?_;first|refine a_p rfl ?_|(refine k_st ?_;refine g_sw rfl rfl rfl rfl (Nat.le_of_ble_eq_true rfl) ?_)|(refine k_al ?_;refine a_al ?_)|(refine g_c rfl (play_a (m:=m) (acts:=mcL (n+1) u) (d:=d) (room:=1000) (fun a b x _ h=>act_a hf h) hle (by omega)) (fun v As' hq=>?_);obtain⟨z,sd,rfl,rfl,hz⟩:=hq))
  |refine a_n ?_
  |(refine k_V ?_;first|refine v_seq ?_|refine v_reg ?_)
  |refine sk_zero ?_
  |refine sk_succ ?_
  |refine wk_nil ?_
  |refine wk_cons ?_)
 refine g_c rfl (wNums_a (op:=17) hlen hle) (fun v As' hq=>?_)
 obtain⟨g1,rfl,rfl⟩:=hq
 rw[k1]
 repeat' (first
  |(refine k_L ?_;refine a_p rfl ?_)
  |refine a_n ?_
  |(refine k_V ?_;first|refine v_seq ?_|refine v_reg ?_))
 refine g_c rfl (wNums_a (op:=20) hlen hle) (fun v As' hq=>?_)
 obtain⟨g2,rfl,rfl⟩:=hq
 rw[k2]
 repeat' (first
  |(refine k_L ?_;refine a_p rfl ?_)
  |refine a_n ?_
  |(refine k_V ?_;first|refine v_seq ?_|refine v_reg ?_))
 refine g_c rfl (wNums_a (op:=21) hlen hle) (fun v As' hq=>?_)
 obtain⟨g3,rfl,rfl⟩:=hq
 rw[k3]
 repeat' (first
  |(refine k_L ?_;first|(refine k_ad ?_;refine g_ad rfl rfl ?_)|(refine k_ml ?_;refine g_ml rfl rfl ?_)|refine a_p rfl ?_|(refine k_g ?_;refine a_gy rfl rfl ?_)|(refine a_ns (f:=iv) [((n+1:Nat):Int),0] iv_len rfl rfl rfl (by omega) (fun e he=>?_);obtain⟨ea,ec⟩:=e;dsimp only at he;subst he;refine a_gy rfl rfl ?_;refine a_cq rfl (fun m' hm=>wInts_t (d:=g1) (e:=⟨ea,2⟩) (xs:=[((n+1:Nat):Int),0]) (sep_has hm pmt) (sep_has hm pmt)) ?_)|(refine a_ns (f:=iv) [2*((n+1:Nat):Int)+2,((n+1:Nat):Int)+1] iv_len rfl rfl rfl (by omega) (fun e he=>?_);obtain⟨ea,ec⟩:=e;dsimp only at he;subst he;refine a_gy rfl rfl ?_;refine a_cq rfl (fun m' hm=>wInts_t (d:=g2) (e:=⟨ea,2⟩) (xs:=[2*((n+1:Nat):Int)+2,((n+1:Nat):Int)+1]) (sep_has hm pmt) (sep_has hm pmt)) ?_)|(refine a_ns (f:=iv) [1] iv_len rfl rfl rfl (by omega) (fun e he=>?_);obtain⟨ea,ec⟩:=e;dsimp only at he;subst he;refine a_gy rfl rfl ?_;refine a_cq rfl (fun m' hm=>wInts_t (d:=g3) (e:=⟨ea,1⟩) (xs:=[1]) (sep_has hm pmt) (sep_has hm pmt)) ?_))
  |refine a_n ?_
  |(refine k_V ?_;first|refine v_seq ?_|refine v_reg ?_|refine v_ret ?_))
 exact fa_r (As':=[ro m]) (fun _ _=>rfl) (Pm.ent pmt) ⟨rfl,rfl⟩
end Go.Proofs.YtpleoapljeffiaaDoor.E
namespace Go.Proofs.YtpleoapljeffiaaDoor.E
open Go Go.ChangeShapes Go.WideShapes Go.ChangeAt Go.RowKit
theorem door_metChain(os:Os)(args:Array Value):laidMetH Tryd.prog Rows.fnChainRow.laid ((World.doorLaid Tryd.prog 38 os).forCall (fun _ _=>0) ⟨#[],args,[]⟩).memory:=
 laidMetH_of_parts3 (fuel:=8) (laidMet_of_run' 8 (by kernel_rfl) (by kernel_rfl)) (by kernel_rfl) (by kernel_rfl)
theorem liftedChain(os:Os)(started:os.Started)(H:Type)(enc:TypeId×Value→H):
 ReturnsInHanded {} Tryd.checked os 3 .any (fun w args=>(Rows.fnChainSpec.pre enc Tryd.prog Tryd.f3 [] false w args∧laidMetH Tryd.prog Rows.fnChainRow.laid w)∧sizedMet enc Tryd.prog Tryd.f3 (OpenSpec.ofChange Rows.fnChainSpec) false w args)
  (Rows.fnChainSpec.post enc Tryd.prog Tryd.f3 false true false false):=by
 refine returnsInHanded_of_change_and (C:=Tryd.checked) (X:=fun w _=>laidMetH Tryd.prog Rows.fnChainRow.laid w) (fun _ _ _ hh h=>h.of_heap hh) ownknob started (by kernel_rfl) Tryd.func3
  (ChangeSpec.witness_shaped (enc:=enc) (C:=Tryd.checked) (os:=os) (X:=fun w _=>laidMetH Tryd.prog Rows.fnChainRow.laid w) false (World.doorLaid Tryd.prog 38 os) #[.slice none 0 0] 8 rfl (World.shaped_of_RefB (by kernel_rfl) (by kernel_rfl)) (by kernel_rfl) (by kernel_rfl) (by kernel_rfl) (door_metChain os _)) ?_
 intro W base args ds gs before hval0 hW _ _ hL _
 have hval:∀(j:Nat) t v,Tryd.f3.params[j]?=some t→args[j]?=some v→Value.okWide Tryd.prog W .any base t v:=hval0
 have hW':=hW
 obtain⟨p,q,hA0,hV,rfl,hfz,hnd⟩:=hW
 have hA:DataW.TrodAll enc Tryd.prog W 0 (fun _=>true) true [22] args.toList ds p:=hA0
 obtain⟨v0,d0,rfl,rfl,h0⟩:=trodAll_one hA
 obtain⟨sa,n,cap,rfl⟩:=okWide_slice und_bytes (hval 0 22 v0 rfl rfl)
 clear hA0 hval0
 have h0k:=h0
 obtain⟨fuel,h0'⟩:=h0
 have hc:=open_bytes h0'
 have hlt0:∀x∈p,x.block<W.heap.size:=fun x hx=>by simpa using hW'.lt x (by simp[hx])
 have hq:Fn Tryd.prog 3 [.slice sa n cap] (memOf W) (fun v M'=>v=.bool true∧(memOf W).le M'):=(fnChain_q (frm_of_met rfl hL) hc).mono fun v M' ⟨h1,h2⟩=>⟨h1,by rw[h2];exact Mem.le_refl _⟩
 refine(row_of hq).mono fun e W' ⟨he,bel⟩=>?_
 subst he
 have hT0:=Below.trod laid (by kernel_rfl) (of_decide_eq_true (by kernel_rfl)) h0k bel hlt0
 obtain ⟨_, _, _, _, g1, _, rfl, _⟩ := trodVars_one (show DataW.TrodVars enc Tryd.prog W (fun _ => true) ["loop.example/spool/impl.forms"] gs q from hV)
 have hV2:=Below.trodVars laid bel (by kernel_rfl) hV
 exact⟨_,rfl,_,_,_,_,_,_,hW',trodAll_mk1 (shut_bool und_bool _),trodAll_mk1 hT0,hV2,bel.frame _,fun h=>by cases h⟩
end Go.Proofs.YtpleoapljeffiaaDoor.E
namespace Go.Proofs.YtpleoapljeffiaaDoor
open Go Go.ChangeShapes Go.WideShapes Go.ChangeAt Go.RowKit
theorem fnChain_row:Rows.FnChainSaid:=
 OpenClaim.holds_of_wide 3 Tryd.f3 rfl rfl rfl rfl rfl rfl rfl ⟨rfl,rfl,rfl,rfl,rfl⟩ rfl rfl rfl rfl rfl (by kernel_rfl) Tryd.func3 jfChain
  (of_decide_eq_true (by kernel_rfl)) (by unfold Func.isWrapper;first|(rw[if_pos (by decide+kernel)];kernel_rfl)|(rw[if_neg (by decide+kernel)];exact⟨rfl,rfl⟩))
  (fun os started H enc _=>E.liftedChain os started H enc)
theorem fnChain_holds:Rows.FnChainCardSaid:=
 Claim7.holds_tied_plain_at .later [] [.data] true Rows.fnChainCard.stood.harness false
  fnChain_row (fun _ h=>by cases h) (by kernel_rfl) (fun _ h=>by cases h) fnChain_row_tie rfl ⟨rfl,rfl⟩ (by kernel_rfl) rfl
  (fun f fn hf hfn=>by
    obtain rfl : f = 3 := Option.some.inj ((show Tryd.prog.funcNamed "loop.example/spool/laws.FnChain" = some 3 by kernel_rfl).symm.trans hf) |>.symm
    obtain rfl:fn=Tryd.f3:=(Option.some.inj (Tryd.func3.symm.trans hfn)).symm
    exact⟨by kernel_rfl,fun j t ht=>by
     have hm:t∈[22]:=by
      have:=Array.mem_of_getElem? ht
      rw[←Array.mem_toList_iff]at this
      exact this
     have hall:([22].all fun u=> !Tryd.prog.wantsStandIn u)=true:=by kernel_rfl
     exact(show Tryd.prog.wantsStandIn t=false by simpa using List.all_eq_true.1 hall t hm)⟩)
  (by kernel_rfl)
end Go.Proofs.YtpleoapljeffiaaDoor
