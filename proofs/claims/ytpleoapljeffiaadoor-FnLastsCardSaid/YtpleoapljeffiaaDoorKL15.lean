/- A part of the proof. Conditions: none. -/
import Derived.Test.YtpleoapljeffiaaDoorKL14
set_option linter.unusedVariables false
set_option linter.unusedSimpArgs false
set_option maxHeartbeats 8000000
set_option maxRecDepth 100000
namespace Go.Proofs.YtpleoapljeffiaaDoor.E
open Go
open Classical
theorem doE_wr{a:Nat}{x:HX}{op n:Int}{ka kb kc:Nat}(h:Sound x.H)(ha:ka≤15)(hb:kb≤15)(ho:op=7∨op=8):FnA Tryd.prog 39 [eV a,.agg #[.int .i64 op,.int .i64 ka,.int .i64 kb,.int .i64 kc,.int .i64 n]] (hp a x) (fun v As=>∃z:HX,v=an (doPair x.H ⟨op,ka,kb,kc,n⟩).code (doPair x.H ⟨op,ka,kb,kc,n⟩).num∧As=hp a z∧z.H=(doPair x.H ⟨op,ka,kb,kc,n⟩).heap):=by
 have hl:=x.len
 have hnc:x.hdr.nc=x.xs.length:=rfl
 have hnr:x.hdr.nr=x.regs.length:=rfl
 have h16:x.regs.length=16:=h.r1.regs
 obtain⟨v,gv⟩:∃w,x.regs[kb]?=some w:=⟨_,List.getElem?_eq_getElem (by omega)⟩
 obtain⟨w,gw⟩:∃w,x.regs[ka]?=some w:=⟨_,List.getElem?_eq_getElem (by omega)⟩
 have er:x.H.getR ka=w:=getR_at gw
 obtain⟨r1,r2⟩:=getR_ok h (r:=ka) (by omega) (by omega)
 rw[er]at r1 r2
 refine fnA_of (fun h=>fn39 (by simp) h) ?_
 unfold doPair
 dsimp only
 rw[if_neg (show ¬(op=5∨op=6) by omega),er]
 by_cases hk:w.kind=2
 ·obtain⟨b0,b1,b2,b3⟩:=r2 hk
  obtain⟨j,hj⟩:=Int.eq_ofNat_of_zero_le b0
  have et:x.H.toI w=(j:Int):=by rw[toI_used hk b2,hj]
  have hwf:w.kind=2→0≤w.at_∧w.at_<x.H.cells.length:=fun _=>⟨b0,b1⟩
  rw[hj]at b1 b2
  obtain⟨y,gy,gc⟩:=HX.at (x:=x) (i:=j) (by omega)
  have gk:=HX.gc gy
  rw[if_neg (fun e=>e hk),hj,gk,Int.toNat_natCast,Int.toNat_natCast]
  have hcj:x.H.cells[j]?=some y.c:=gc
  cases hpp:y.c.pairs[kc]? with
  |none=>
   have:=List.getElem?_eq_none_iff.1 hpp
   rcases ho with rfl|rfl
   ·repeat' (first
     |(refine k_L ?_;first|refine a_p rfl ?_|(refine k_l ?_;refine g_l rfl ?_)|(refine k_i ?_;refine g_i rfl rfl ?_)|(refine k_ls ?_;refine g_ls rfl ?_)|(refine k_st ?_;refine g_sw rfl rfl rfl rfl (Nat.le_of_ble_eq_true rfl) ?_)|(refine k_al ?_;refine a_al ?_)|(refine k_bx ?_;refine a_bx rfl rfl ?_)|(refine k_q ?_;refine a_q rfl (fun m hm=>qt_e (to_q (x:=x) (sep_has hm pmt) hwf) (by rw[et])) ?_)|(refine k_c ?_;refine a_cq rfl (fun m hm=>codeE_q) ?_))
     |refine a_n ?_
     |(refine k_V ?_;first|refine v_seq ?_|refine v_reg ?_|refine v_dreg ?_|refine v_bs ?_|refine v_ret ?_|refine v_skip ?_|refine v_ct rfl ?_|refine v_cf rfl ?_|(refine v_cd rfl (fun hb=>?_) (fun hb=>?_)<;>try(exfalso;omega)))
     |refine s_r ?_
     |refine b_r ?_
     |refine sk_zero ?_
     |refine sk_succ ?_
     |refine wk_nil ?_
     |refine wk_cons ?_)
    all_goals exact fa_r (fun _ _=>rfl) (Pm.ent pmt) ⟨x,rfl,rfl,rfl⟩
   ·repeat' (first
     |(refine k_L ?_;first|refine a_p rfl ?_|(refine k_l ?_;refine g_l rfl ?_)|(refine k_i ?_;refine g_i rfl rfl ?_)|(refine k_ls ?_;refine g_ls rfl ?_)|(refine k_st ?_;refine g_sw rfl rfl rfl rfl (Nat.le_of_ble_eq_true rfl) ?_)|(refine k_al ?_;refine a_al ?_)|(refine k_bx ?_;refine a_bx rfl rfl ?_)|(refine k_q ?_;refine a_q rfl (fun m hm=>qt_e (to_q (x:=x) (sep_has hm pmt) hwf) (by rw[et])) ?_)|(refine k_c ?_;refine a_cq rfl (fun m hm=>codeE_q) ?_))
     |refine a_n ?_
     |(refine k_V ?_;first|refine v_seq ?_|refine v_reg ?_|refine v_dreg ?_|refine v_bs ?_|refine v_ret ?_|refine v_skip ?_|refine v_ct rfl ?_|refine v_cf rfl ?_|(refine v_cd rfl (fun hb=>?_) (fun hb=>?_)<;>try(exfalso;omega)))
     |refine s_r ?_
     |refine b_r ?_
     |refine sk_zero ?_
     |refine sk_succ ?_
     |refine wk_nil ?_
     |refine wk_cons ?_)
    all_goals exact fa_r (fun _ _=>rfl) (Pm.ent pmt) ⟨x,rfl,rfl,rfl⟩
  |some p=>
   have:=(List.getElem?_eq_some_iff.1 hpp).1
   have ev:x.H.getR kb=v:=getR_at gv
   obtain⟨v1,v2⟩:=getR_ok h (r:=kb) (by omega) (by omega)
   rw[ev]at v1 v2
   have hgr:x.gray.length≤1000000:=by have:=h.r1.gray;have:=h.r1.cells;have:=h.r1.room;have e:x.H.gray.length=x.gray.length:=rfl;omega
   have wrt:∀q:Pair,HX.H {x with xs:=x.xs.set j (y.s_pair kc q)}=x.H.putP j kc q:=fun q=>by
    unfold Heap.putP
    rw[gk]
    unfold HX.H
    simp only[List.map_set];rfl
   have wat:∀q:Pair,v.kind=2→0≤v.at_∧v.at_<(x.H.putP j kc q).cells.length:=fun q hk=>by have:=v1.at hk;show _∧_<((x.H.cells.set j _).length:Int);rw[List.length_set];exact this
   have wst:∀q:Pair,v.kind=2→((x.H.putP j kc q).getC v.at_).state=1:=fun q hk=>by
    have hst:=(v2 hk).2.2.1
    have hji:j<x.H.cells.length:=by omega
    have g:(x.H.putP j kc q).getC v.at_=if v.at_.toNat=j then{x.H.getC j with pairs:=(x.H.getC j).pairs.set kc q}else x.H.getC v.at_:=by rw[getC_L,getC_L];exact getL_set hji
    rw[g];split
    ·exact b2
    ·exact hst
   rcases ho with rfl|rfl
   ·have zH:=wrt ⟨v,p.val⟩
    have hw1:=wat ⟨v,p.val⟩
    have hw2:=wst ⟨v,p.val⟩
    repeat' (first
     |(refine k_L ?_;first|refine a_p rfl ?_|(refine k_l ?_;refine g_l rfl ?_)|(refine k_i ?_;refine g_i rfl rfl ?_)|(refine k_ls ?_;refine g_ls rfl ?_)|(refine k_st ?_;refine g_st rfl rfl rfl rfl ?_)|(refine k_al ?_;refine a_al ?_)|(refine k_bx ?_;refine a_bx rfl rfl ?_)|(refine k_q ?_;refine a_q rfl (fun m hm=>qt_e (to_q (x:=x) (sep_has hm pmt) hwf) (by rw[et])) ?_))
     |refine a_n ?_
     |(refine k_V ?_;first|refine v_seq ?_|refine v_reg ?_|refine v_dreg ?_|refine v_bs ?_|refine v_skip ?_|refine v_ct rfl ?_|refine v_cf rfl ?_|(refine v_cd rfl (fun hb=>?_) (fun hb=>?_)<;>try(exfalso;omega))))
    have gy':(x.xs.set j (y.s_pair kc ⟨v,p.val⟩))[j]?=some (y.s_pair kc ⟨v,p.val⟩):=by rw[List.getElem?_set,if_pos rfl,if_pos (by omega)]
    have hpp':(y.s_pair kc ⟨v,p.val⟩).c.pairs[kc]?=some ⟨v,p.val⟩:=by show(y.c.pairs.set kc _)[kc]?=_;rw[List.getElem?_set,if_pos rfl,if_pos (by omega)]
    refine a_ls rfl (rs_t (rs_t (rs_h (r_key (y:=y.s_pair kc ⟨v,p.val⟩) (p:=⟨v,p.val⟩) gy' hpp')))) ?_
    refine LA.ent (Pm.ent (fin ({x with xs:=x.xs.set j (y.s_pair kc ⟨v,p.val⟩)}:HX) (e1:=by simp[HX.hdr]))) ?_
    refine g_c rfl (shadeWord_a (x:={x with xs:=x.xs.set j (y.s_pair kc ⟨v,p.val⟩)}) (w:=v) (by rw[zH];exact hw1) (by rw[zH];exact hw2) hgr) (fun v' As' hq=>?_)
    obtain⟨u,rfl,rfl,hu,_⟩:=hq
    repeat' (first
     |(refine k_L ?_;first|(refine k_st ?_;refine g_sw rfl rfl rfl rfl (Nat.le_of_ble_eq_true rfl) ?_)|(refine k_c ?_;refine a_cq rfl (fun m hm=>numE_q) ?_))
     |refine a_n ?_
     |(refine k_V ?_;first|refine v_seq ?_|refine v_reg ?_|refine v_ret ?_)
     |refine sk_zero ?_
     |refine sk_succ ?_
     |refine wk_nil ?_
     |refine wk_cons ?_)
    all_goals exact fa_r (fun _ _=>rfl) (Pm.ent pmt) ⟨u,rfl,rfl,by rw[hu,zH,shadeW_put (by omega) v1,ev];rfl⟩
   ·have zH:=wrt ⟨p.key,v⟩
    have hw1:=wat ⟨p.key,v⟩
    have hw2:=wst ⟨p.key,v⟩
    repeat' (first
     |(refine k_L ?_;first|refine a_p rfl ?_|(refine k_l ?_;refine g_l rfl ?_)|(refine k_i ?_;refine g_i rfl rfl ?_)|(refine k_ls ?_;refine g_ls rfl ?_)|(refine k_st ?_;refine g_st rfl rfl rfl rfl ?_)|(refine k_al ?_;refine a_al ?_)|(refine k_bx ?_;refine a_bx rfl rfl ?_)|(refine k_q ?_;refine a_q rfl (fun m hm=>qt_e (to_q (x:=x) (sep_has hm pmt) hwf) (by rw[et])) ?_))
     |refine a_n ?_
     |(refine k_V ?_;first|refine v_seq ?_|refine v_reg ?_|refine v_dreg ?_|refine v_bs ?_|refine v_skip ?_|refine v_ct rfl ?_|refine v_cf rfl ?_|(refine v_cd rfl (fun hb=>?_) (fun hb=>?_)<;>try(exfalso;omega))))
    have gy':(x.xs.set j (y.s_pair kc ⟨p.key,v⟩))[j]?=some (y.s_pair kc ⟨p.key,v⟩):=by rw[List.getElem?_set,if_pos rfl,if_pos (by omega)]
    have hpp':(y.s_pair kc ⟨p.key,v⟩).c.pairs[kc]?=some ⟨p.key,v⟩:=by show(y.c.pairs.set kc _)[kc]?=_;rw[List.getElem?_set,if_pos rfl,if_pos (by omega)]
    refine a_ls rfl (rs_t (rs_t (rs_h (r_val (y:=y.s_pair kc ⟨p.key,v⟩) (p:=⟨p.key,v⟩) gy' hpp')))) ?_
    refine LA.ent (Pm.ent (fin ({x with xs:=x.xs.set j (y.s_pair kc ⟨p.key,v⟩)}:HX) (e1:=by simp[HX.hdr]))) ?_
    refine g_c rfl (shadeWord_a (x:={x with xs:=x.xs.set j (y.s_pair kc ⟨p.key,v⟩)}) (w:=v) (by rw[zH];exact hw1) (by rw[zH];exact hw2) hgr) (fun v' As' hq=>?_)
    obtain⟨u,rfl,rfl,hu,_⟩:=hq
    repeat' (first
     |(refine k_L ?_;first|(refine k_st ?_;refine g_sw rfl rfl rfl rfl (Nat.le_of_ble_eq_true rfl) ?_)|(refine k_c ?_;refine a_cq rfl (fun m hm=>numE_q) ?_))
     |refine a_n ?_
     |(refine k_V ?_;first|refine v_seq ?_|refine v_reg ?_|refine v_ret ?_)
     |refine sk_zero ?_
     |refine sk_succ ?_
     |refine wk_nil ?_
     |refine wk_cons ?_)
    all_goals exact fa_r (fun _ _=>rfl) (Pm.ent pmt) ⟨u,rfl,rfl,by rw[hu,zH,shadeW_put (by omega) v1,ev];rfl⟩
 ·have et:=toI_no (H:=x.H) hk
  rw[if_pos hk]
  rcases ho with rfl|rfl
  ·repeat' (first
    |(refine k_L ?_;first|refine a_p rfl ?_|(refine k_l ?_;refine g_l rfl ?_)|(refine k_i ?_;refine g_i rfl rfl ?_)|(refine k_ls ?_;refine g_ls rfl ?_)|(refine k_st ?_;refine g_sw rfl rfl rfl rfl (Nat.le_of_ble_eq_true rfl) ?_)|(refine k_al ?_;refine a_al ?_)|(refine k_bx ?_;refine a_bx rfl rfl ?_)|(refine k_q ?_;refine a_q rfl (fun m hm=>qt_e (to_q (x:=x) (sep_has hm pmt) (fun e=>absurd e hk)) (by rw[et])) ?_)|(refine k_c ?_;refine a_cq rfl (fun m hm=>codeE_q) ?_))
    |refine a_n ?_
    |(refine k_V ?_;first|refine v_seq ?_|refine v_reg ?_|refine v_dreg ?_|refine v_bs ?_|refine v_ret ?_|refine v_skip ?_|refine v_ct rfl ?_|refine v_cf rfl ?_)
    |refine s_r ?_
    |refine sk_zero ?_
    |refine sk_succ ?_
    |refine wk_nil ?_
    |refine wk_cons ?_)
   all_goals exact fa_r (fun _ _=>rfl) (Pm.ent pmt) ⟨x,rfl,rfl,rfl⟩
  ·repeat' (first
    |(refine k_L ?_;first|refine a_p rfl ?_|(refine k_l ?_;refine g_l rfl ?_)|(refine k_i ?_;refine g_i rfl rfl ?_)|(refine k_ls ?_;refine g_ls rfl ?_)|(refine k_st ?_;refine g_sw rfl rfl rfl rfl (Nat.le_of_ble_eq_true rfl) ?_)|(refine k_al ?_;refine a_al ?_)|(refine k_bx ?_;refine a_bx rfl rfl ?_)|(refine k_q ?_;refine a_q rfl (fun m hm=>qt_e (to_q (x:=x) (sep_has hm pmt) (fun e=>absurd e hk)) (by rw[et])) ?_)|(refine k_c ?_;refine a_cq rfl (fun m hm=>codeE_q) ?_))
    |refine a_n ?_
    |(refine k_V ?_;first|refine v_seq ?_|refine v_reg ?_|refine v_dreg ?_|refine v_bs ?_|refine v_ret ?_|refine v_skip ?_|refine v_ct rfl ?_|refine v_cf rfl ?_)
    |refine s_r ?_
    |refine sk_zero ?_
    |refine sk_succ ?_
    |refine wk_nil ?_
    |refine wk_cons ?_)
   all_goals exact fa_r (fun _ _=>rfl) (Pm.ent pmt) ⟨x,rfl,rfl,rfl⟩
theorem doE_cell{a:Nat}{x:HX}{op n:Int}{ka kb kc:Nat}(h:Sound x.H)(ha:ka≤15)(hc:kc≤200)(ho:op=9∨op=10∨op=11∨op=16∨op=17):FnA Tryd.prog 39 [eV a,.agg #[.int .i64 op,.int .i64 ka,.int .i64 kb,.int .i64 kc,.int .i64 n]] (hp a x) (fun v As=>∃z:HX,v=an (doCell x.H ⟨op,ka,kb,kc,n⟩).code (doCell x.H ⟨op,ka,kb,kc,n⟩).num∧As=hp a z∧z.H=(doCell x.H ⟨op,ka,kb,kc,n⟩).heap):=by
 have hl:=x.len
 have hnc:x.hdr.nc=x.xs.length:=rfl
 have hnr:x.hdr.nr=x.regs.length:=rfl
 have h16:x.regs.length=16:=h.r1.regs
 obtain⟨w,gw⟩:∃w,x.regs[ka]?=some w:=⟨_,List.getElem?_eq_getElem (by omega)⟩
 have er:x.H.getR ka=w:=getR_at gw
 obtain⟨r1,r2⟩:=getR_ok h (r:=ka) (by omega) (by omega)
 rw[er]at r1 r2
 refine fnA_of (fun h=>fn39 (by simp) h) ?_
 unfold doCell
 dsimp only
 rw[er]
 by_cases hk:w.kind=2
 ·obtain⟨b0,b1,b2,b3⟩:=r2 hk
  obtain⟨j,hj⟩:=Int.eq_ofNat_of_zero_le b0
  have et:x.H.toI w=(j:Int):=by rw[toI_used hk b2,hj]
  have hwf:w.kind=2→0≤w.at_∧w.at_<x.H.cells.length:=fun _=>⟨b0,b1⟩
  rw[hj]at b1 b2
  obtain⟨y,gy,gc⟩:=HX.at (x:=x) (i:=j) (by omega)
  have gk:=HX.gc gy
  rw[if_neg (fun e=>e hk),hj,gk,Int.toNat_natCast]
  rcases ho with rfl|rfl|rfl|rfl|rfl
  ·repeat' (first
    |(refine k_L ?_;first|refine a_p rfl ?_|(refine k_l ?_;refine g_l rfl ?_)|(refine k_i ?_;refine g_i rfl rfl ?_)|(refine k_ls ?_;refine g_ls rfl ?_)|(refine k_st ?_;refine g_sw rfl rfl rfl rfl (Nat.le_of_ble_eq_true rfl) ?_)|(refine k_al ?_;refine a_al ?_)|(refine k_bx ?_;refine a_bx rfl rfl ?_)|(refine k_q ?_;refine a_q rfl (fun m hm=>qt_e (to_q (x:=x) (sep_has hm pmt) hwf) (by rw[et])) ?_)|(refine g_c rfl (growE_a (x:=x) (op:=9) (n:=n) (ka:=ka) (kb:=kb) (kc:=kc) (j0:=j) h ha hc (by rw[er];exact hk) (by rw[er];exact hj)) (fun v As' hq=>?_);obtain⟨z,rfl,rfl,hz⟩:=hq))
    |refine a_n ?_
    |(refine k_V ?_;first|refine v_seq ?_|refine v_reg ?_|refine v_dreg ?_|refine v_bs ?_|refine v_ret ?_|refine v_skip ?_|refine v_ct rfl ?_|refine v_cf rfl ?_)
    |refine s_r ?_
    |refine b_r ?_
    |refine sk_zero ?_
    |refine sk_succ ?_
    |refine wk_nil ?_
    |refine wk_cons ?_)
   all_goals exact fa_r (fun _ _=>rfl) (Pm.ent pmt) ⟨z,rfl,rfl,hz⟩
  ·repeat' (first
    |(refine k_L ?_;first|refine a_p rfl ?_|(refine k_l ?_;refine g_l rfl ?_)|(refine k_i ?_;refine g_i rfl rfl ?_)|(refine k_ls ?_;refine g_ls rfl ?_)|(refine k_st ?_;refine g_sw rfl rfl rfl rfl (Nat.le_of_ble_eq_true rfl) ?_)|(refine k_al ?_;refine a_al ?_)|(refine k_bx ?_;refine a_bx rfl rfl ?_)|(refine k_q ?_;refine a_q rfl (fun m hm=>qt_e (to_q (x:=x) (sep_has hm pmt) hwf) (by rw[et])) ?_)|(refine k_c ?_;refine a_cq rfl (fun m hm=>numE_q) ?_)|(refine g_c rfl (cutE_a (x:=x) (i:=j) (n:=kc) h (by omega) b2) (fun v As' hq=>?_);obtain⟨z,rfl,hz⟩:=hq))
    |refine a_n ?_
    |(refine k_V ?_;first|refine v_seq ?_|refine v_reg ?_|refine v_dreg ?_|refine v_bs ?_|refine v_ret ?_|refine v_skip ?_|refine v_ct rfl ?_|refine v_cf rfl ?_)
    |refine sk_zero ?_
    |refine sk_succ ?_
    |refine wk_nil ?_
    |refine wk_cons ?_)
   all_goals exact fa_r (fun _ _=>rfl) (Pm.ent pmt) ⟨z,rfl,rfl,hz⟩
  ·repeat' (first
    |(refine k_L ?_;first|refine a_p rfl ?_|(refine k_l ?_;refine g_l rfl ?_)|(refine k_i ?_;refine g_i rfl rfl ?_)|(refine k_ls ?_;refine g_ls rfl ?_)|(refine k_st ?_;first|refine g_st rfl rfl rfl rfl ?_|refine g_sw rfl rfl rfl rfl (Nat.le_of_ble_eq_true rfl) ?_)|(refine k_al ?_;refine a_al ?_)|(refine k_bx ?_;refine a_bx rfl rfl ?_)|(refine k_q ?_;refine a_q rfl (fun m hm=>qt_e (to_q (x:=x) (sep_has hm pmt) hwf) (by rw[et])) ?_)|(refine k_c ?_;refine a_cq rfl (fun m hm=>numE_q) ?_))
    |refine a_n ?_
    |(refine k_V ?_;first|refine v_seq ?_|refine v_reg ?_|refine v_dreg ?_|refine v_bs ?_|refine v_ret ?_|refine v_skip ?_|refine v_ct rfl ?_|refine v_cf rfl ?_)
    |refine sk_zero ?_
    |refine sk_succ ?_
    |refine wk_nil ?_
    |refine wk_cons ?_)
   refine fa_r (fun _ _=>rfl) (Pm.ent (fin ({x with xs:=x.xs.set j (y.s_weak kc)}:HX) (e1:=by simp[HX.hdr]))) ⟨_,rfl,rfl,?_⟩
   show _=x.H.putW j kc
   unfold Heap.putW
   rw[gk]
   unfold HX.H
   simp only[List.map_set];rfl
  ·repeat' (first
    |(refine k_L ?_;first|refine a_p rfl ?_|(refine k_l ?_;refine g_l rfl ?_)|(refine k_i ?_;refine g_i rfl rfl ?_)|(refine k_ls ?_;refine g_ls rfl ?_)|(refine k_st ?_;refine g_sw rfl rfl rfl rfl (Nat.le_of_ble_eq_true rfl) ?_)|(refine k_al ?_;refine a_al ?_)|(refine k_bx ?_;refine a_bx rfl rfl ?_)|(refine k_q ?_;refine a_q rfl (fun m hm=>qt_e (to_q (x:=x) (sep_has hm pmt) hwf) (by rw[et])) ?_)|(refine k_c ?_;refine a_cq rfl (fun m hm=>numE_q) ?_))
    |refine a_n ?_
    |(refine k_V ?_;first|refine v_seq ?_|refine v_reg ?_|refine v_dreg ?_|refine v_bs ?_|refine v_ret ?_|refine v_skip ?_|refine v_ct rfl ?_|refine v_cf rfl ?_)
    |refine s_r ?_
    |refine b_r ?_
    |refine sk_zero ?_
    |refine sk_succ ?_
    |refine wk_nil ?_
    |refine wk_cons ?_)
   all_goals exact fa_r (fun _ _=>rfl) (Pm.ent pmt) ⟨x,rfl,rfl,rfl⟩
  ·repeat' (first
    |(refine k_L ?_;first|refine a_p rfl ?_|(refine k_l ?_;refine g_l rfl ?_)|(refine k_i ?_;refine g_i rfl rfl ?_)|(refine k_ls ?_;refine g_ls rfl ?_)|(refine k_st ?_;refine g_sw rfl rfl rfl rfl (Nat.le_of_ble_eq_true rfl) ?_)|(refine k_al ?_;refine a_al ?_)|(refine k_bx ?_;refine a_bx rfl rfl ?_)|(refine k_q ?_;refine a_q rfl (fun m hm=>qt_e (to_q (x:=x) (sep_has hm pmt) hwf) (by rw[et])) ?_)|(refine k_c ?_;refine a_cq rfl (fun m hm=>numE_q) ?_))
    |refine a_n ?_
    |(refine k_V ?_;first|refine v_seq ?_|refine v_reg ?_|refine v_dreg ?_|refine v_bs ?_|refine v_ret ?_|refine v_skip ?_|refine v_ct rfl ?_|refine v_cf rfl ?_)
    |refine s_r ?_
    |refine b_r ?_
    |refine sk_zero ?_
    |refine sk_succ ?_
    |refine wk_nil ?_
    |refine wk_cons ?_)
   all_goals exact fa_r (fun _ _=>rfl) (Pm.ent pmt) ⟨x,rfl,rfl,rfl⟩
 ·have et:=toI_no (H:=x.H) hk
  rw[if_pos hk]
  rcases ho with rfl|rfl|rfl|rfl|rfl
  ·repeat' (first
    |(refine k_L ?_;first|refine a_p rfl ?_|(refine k_l ?_;refine g_l rfl ?_)|(refine k_i ?_;refine g_i rfl rfl ?_)|(refine k_ls ?_;refine g_ls rfl ?_)|(refine k_st ?_;refine g_sw rfl rfl rfl rfl (Nat.le_of_ble_eq_true rfl) ?_)|(refine k_al ?_;refine a_al ?_)|(refine k_bx ?_;refine a_bx rfl rfl ?_)|(refine k_q ?_;refine a_q rfl (fun m hm=>qt_e (to_q (x:=x) (sep_has hm pmt) (fun e=>absurd e hk)) (by rw[et])) ?_)|(refine k_c ?_;refine a_cq rfl (fun m hm=>codeE_q) ?_))
    |refine a_n ?_
    |(refine k_V ?_;first|refine v_seq ?_|refine v_reg ?_|refine v_dreg ?_|refine v_bs ?_|refine v_ret ?_|refine v_skip ?_|refine v_ct rfl ?_|refine v_cf rfl ?_)
    |refine s_r ?_
    |refine sk_zero ?_
    |refine sk_succ ?_
    |refine wk_nil ?_
    |refine wk_cons ?_)
   all_goals exact fa_r (fun _ _=>rfl) (Pm.ent pmt) ⟨x,rfl,rfl,rfl⟩
  ·repeat' (first
    |(refine k_L ?_;first|refine a_p rfl ?_|(refine k_l ?_;refine g_l rfl ?_)|(refine k_i ?_;refine g_i rfl rfl ?_)|(refine k_ls ?_;refine g_ls rfl ?_)|(refine k_st ?_;refine g_sw rfl rfl rfl rfl (Nat.le_of_ble_eq_true rfl) ?_)|(refine k_al ?_;refine a_al ?_)|(refine k_bx ?_;refine a_bx rfl rfl ?_)|(refine k_q ?_;refine a_q rfl (fun m hm=>qt_e (to_q (x:=x) (sep_has hm pmt) (fun e=>absurd e hk)) (by rw[et])) ?_)|(refine k_c ?_;refine a_cq rfl (fun m hm=>codeE_q) ?_))
    |refine a_n ?_
    |(refine k_V ?_;first|refine v_seq ?_|refine v_reg ?_|refine v_dreg ?_|refine v_bs ?_|refine v_ret ?_|refine v_skip ?_|refine v_ct rfl ?_|refine v_cf rfl ?_)
    |refine s_r ?_
    |refine sk_zero ?_
    |refine sk_succ ?_
    |refine wk_nil ?_
    |refine wk_cons ?_)
   all_goals exact fa_r (fun _ _=>rfl) (Pm.ent pmt) ⟨x,rfl,rfl,rfl⟩
  ·repeat' (first
    |(refine k_L ?_;first|refine a_p rfl ?_|(refine k_l ?_;refine g_l rfl ?_)|(refine k_i ?_;refine g_i rfl rfl ?_)|(refine k_ls ?_;refine g_ls rfl ?_)|(refine k_st ?_;refine g_sw rfl rfl rfl rfl (Nat.le_of_ble_eq_true rfl) ?_)|(refine k_al ?_;refine a_al ?_)|(refine k_bx ?_;refine a_bx rfl rfl ?_)|(refine k_q ?_;refine a_q rfl (fun m hm=>qt_e (to_q (x:=x) (sep_has hm pmt) (fun e=>absurd e hk)) (by rw[et])) ?_)|(refine k_c ?_;refine a_cq rfl (fun m hm=>codeE_q) ?_))
    |refine a_n ?_
    |(refine k_V ?_;first|refine v_seq ?_|refine v_reg ?_|refine v_dreg ?_|refine v_bs ?_|refine v_ret ?_|refine v_skip ?_|refine v_ct rfl ?_|refine v_cf rfl ?_)
    |refine s_r ?_
    |refine sk_zero ?_
    |refine sk_succ ?_
    |refine wk_nil ?_
    |refine wk_cons ?_)
   all_goals exact fa_r (fun _ _=>rfl) (Pm.ent pmt) ⟨x,rfl,rfl,rfl⟩
  ·repeat' (first
    |(refine k_L ?_;first|refine a_p rfl ?_|(refine k_l ?_;refine g_l rfl ?_)|(refine k_i ?_;refine g_i rfl rfl ?_)|(refine k_ls ?_;refine g_ls rfl ?_)|(refine k_st ?_;refine g_sw rfl rfl rfl rfl (Nat.le_of_ble_eq_true rfl) ?_)|(refine k_al ?_;refine a_al ?_)|(refine k_bx ?_;refine a_bx rfl rfl ?_)|(refine k_q ?_;refine a_q rfl (fun m hm=>qt_e (to_q (x:=x) (sep_has hm pmt) (fun e=>absurd e hk)) (by rw[et])) ?_)|(refine k_c ?_;refine a_cq rfl (fun m hm=>codeE_q) ?_))
    |refine a_n ?_
    |(refine k_V ?_;first|refine v_seq ?_|refine v_reg ?_|refine v_dreg ?_|refine v_bs ?_|refine v_ret ?_|refine v_skip ?_|refine v_ct rfl ?_|refine v_cf rfl ?_)
    |refine s_r ?_
    |refine sk_zero ?_
    |refine sk_succ ?_
    |refine wk_nil ?_
    |refine wk_cons ?_)
   all_goals exact fa_r (fun _ _=>rfl) (Pm.ent pmt) ⟨x,rfl,rfl,rfl⟩
  ·repeat' (first
    |(refine k_L ?_;first|refine a_p rfl ?_|(refine k_l ?_;refine g_l rfl ?_)|(refine k_i ?_;refine g_i rfl rfl ?_)|(refine k_ls ?_;refine g_ls rfl ?_)|(refine k_st ?_;refine g_sw rfl rfl rfl rfl (Nat.le_of_ble_eq_true rfl) ?_)|(refine k_al ?_;refine a_al ?_)|(refine k_bx ?_;refine a_bx rfl rfl ?_)|(refine k_q ?_;refine a_q rfl (fun m hm=>qt_e (to_q (x:=x) (sep_has hm pmt) (fun e=>absurd e hk)) (by rw[et])) ?_)|(refine k_c ?_;refine a_cq rfl (fun m hm=>codeE_q) ?_))
    |refine a_n ?_
    |(refine k_V ?_;first|refine v_seq ?_|refine v_reg ?_|refine v_dreg ?_|refine v_bs ?_|refine v_ret ?_|refine v_ct rfl ?_|refine v_cf rfl ?_)
    |refine s_r ?_
    |refine sk_zero ?_
    |refine sk_succ ?_
    |refine wk_nil ?_
    |refine wk_cons ?_)
   all_goals exact fa_r (fun _ _=>rfl) (Pm.ent pmt) ⟨x,rfl,rfl,rfl⟩
theorem doE_last{a:Nat}{x:HX}{op n:Int}{ka kb kc:Nat}(h:Sound x.H)(ha:ka≤15)(hc:kc≤1)(ho:op=12):FnA Tryd.prog 39 [eV a,.agg #[.int .i64 op,.int .i64 ka,.int .i64 kb,.int .i64 kc,.int .i64 n]] (hp a x) (fun v As=>∃z:HX,v=an (doCell x.H ⟨op,ka,kb,kc,n⟩).code (doCell x.H ⟨op,ka,kb,kc,n⟩).num∧As=hp a z∧z.H=(doCell x.H ⟨op,ka,kb,kc,n⟩).heap):=by
 subst ho
 have hl:=x.len
 have hnc:x.hdr.nc=x.xs.length:=rfl
 have hnr:x.hdr.nr=x.regs.length:=rfl
 have h16:x.regs.length=16:=h.r1.regs
 obtain⟨w,gw⟩:∃w,x.regs[ka]?=some w:=⟨_,List.getElem?_eq_getElem (by omega)⟩
 have er:x.H.getR ka=w:=getR_at gw
 obtain⟨r1,r2⟩:=getR_ok h (r:=ka) (by omega) (by omega)
 rw[er]at r1 r2
 refine fnA_of (fun h=>fn39 (by simp) h) ?_
 unfold doCell
 dsimp only
 rw[er]
 by_cases hk:w.kind=2
 ·obtain⟨b0,b1,b2,b3⟩:=r2 hk
  obtain⟨j,hj⟩:=Int.eq_ofNat_of_zero_le b0
  have et:x.H.toI w=(j:Int):=by rw[toI_used hk b2,hj]
  have hwf:w.kind=2→0≤w.at_∧w.at_<x.H.cells.length:=fun _=>⟨b0,b1⟩
  have hw0:w.at_.toNat=j:=by omega
  rw[hj]at b1 b2
  obtain⟨y,gy,gc⟩:=HX.at (x:=x) (i:=j) (by omega)
  have gk:=HX.gc gy
  rw[if_neg (fun e=>e hk),hj,Int.toNat_natCast]
  have zH:HX.H {x with xs:=x.xs.set j (y.s_last kc)}=x.H.putL j kc:=by
   unfold Heap.putL
   rw[gk]
   unfold HX.H
   simp only[List.map_set];rfl
  have esw:x.H.shadeW w=x.H.shadeH j:=by unfold Heap.shadeW;rw[if_pos hk,hw0]
  by_cases hc1:(kc:Int)=1
  ·have hkc:kc=1:=by omega
   subst hkc
   rw[if_neg (by omega),if_neg (by omega),if_neg (by omega),if_pos rfl,if_pos hc1]
   repeat' (first
    |(refine k_L ?_;first|refine a_p rfl ?_|(refine k_l ?_;refine g_l rfl ?_)|(refine k_i ?_;refine g_i rfl rfl ?_)|(refine k_ls ?_;refine g_ls rfl ?_)|(refine k_st ?_;refine g_st rfl rfl rfl rfl ?_)|(refine k_al ?_;refine a_al ?_)|(refine k_bx ?_;refine a_bx rfl rfl ?_)|(refine k_q ?_;refine a_q rfl (fun m hm=>qt_e (to_q (x:=x) (sep_has hm pmt) hwf) (by rw[et])) ?_))
    |refine a_n ?_
    |(refine k_V ?_;first|refine v_seq ?_|refine v_reg ?_|refine v_dreg ?_|refine v_bs ?_|refine v_skip ?_|refine v_ct rfl ?_|refine v_cf rfl ?_))
   refine LA.ent (Pm.ent (fin ({x with xs:=x.xs.set j (y.s_last (1:Nat))}:HX) (e1:=by simp[HX.hdr]))) ?_
   refine g_c rfl (shadeH_a (x:={x with xs:=x.xs.set j (y.s_last (1:Nat))}) (i:=j) (by show j<(x.xs.set j _).length;rw[List.length_set]<;>omega) (by have:=h.r1.gray;have:=h.r1.cells;have:=h.r1.room;show x.gray.length≤_;have e:x.H.gray.length=x.gray.length:=rfl;omega)) (fun v' As' hq=>?_)
   obtain⟨u,rfl,hu,_⟩:=hq
   repeat' (first
    |(refine k_L ?_;first|(refine k_st ?_;refine g_sw rfl rfl rfl rfl (Nat.le_of_ble_eq_true rfl) ?_)|(refine k_c ?_;refine a_cq rfl (fun m hm=>numE_q) ?_))
    |refine a_n ?_
    |(refine k_V ?_;first|refine v_seq ?_|refine v_reg ?_|refine v_ret ?_)
    |refine sk_zero ?_
    |refine sk_succ ?_
    |refine wk_nil ?_
    |refine wk_cons ?_)
   all_goals exact fa_r (fun _ _=>rfl) (Pm.ent pmt) ⟨u,rfl,rfl,by rw[hu,zH,shadeH_putL (by omega) (by omega),esw]<;>rfl⟩
  ·rw[if_neg (by omega),if_neg (by omega),if_neg (by omega),if_pos rfl,if_neg hc1]
   repeat' (first
    |(refine k_L ?_;first|refine a_p rfl ?_|(refine k_l ?_;refine g_l rfl ?_)|(refine k_i ?_;refine g_i rfl rfl ?_)|(refine k_ls ?_;refine g_ls rfl ?_)|(refine k_st ?_;first|refine g_st rfl rfl rfl rfl ?_|refine g_sw rfl rfl rfl rfl (Nat.le_of_ble_eq_true rfl) ?_)|(refine k_al ?_;refine a_al ?_)|(refine k_bx ?_;refine a_bx rfl rfl ?_)|(refine k_q ?_;refine a_q rfl (fun m hm=>qt_e (to_q (x:=x) (sep_has hm pmt) hwf) (by rw[et])) ?_)|(refine k_c ?_;refine a_cq rfl (fun m hm=>numE_q) ?_))
    |refine a_n ?_
    |(refine k_V ?_;first|refine v_seq ?_|refine v_reg ?_|refine v_dreg ?_|refine v_bs ?_|refine v_ret ?_|refine v_skip ?_|refine v_ct rfl ?_|refine v_cf rfl ?_|(refine v_cd rfl (fun hb=>?_) (fun hb=>?_)<;>try(exfalso;omega)))
    |refine sk_zero ?_
    |refine sk_succ ?_
    |refine wk_nil ?_
    |refine wk_cons ?_)
   all_goals exact fa_r (fun _ _=>rfl) (Pm.ent (fin ({x with xs:=x.xs.set j (y.s_last kc)}:HX) (e1:=by simp[HX.hdr]))) ⟨_,rfl,rfl,zH⟩
 ·have et:=toI_no (H:=x.H) hk
  rw[if_pos hk]
  repeat' (first
   |(refine k_L ?_;first|refine a_p rfl ?_|(refine k_l ?_;refine g_l rfl ?_)|(refine k_i ?_;refine g_i rfl rfl ?_)|(refine k_ls ?_;refine g_ls rfl ?_)|(refine k_st ?_;refine g_sw rfl rfl rfl rfl (Nat.le_of_ble_eq_true rfl) ?_)|(refine k_al ?_;refine a_al ?_)|(refine k_bx ?_;refine a_bx rfl rfl ?_)|(refine k_q ?_;refine a_q rfl (fun m hm=>qt_e (to_q (x:=x) (sep_has hm pmt) (fun e=>absurd e hk)) (by rw[et])) ?_)|(refine k_c ?_;refine a_cq rfl (fun m hm=>codeE_q) ?_))
   |refine a_n ?_
   |(refine k_V ?_;first|refine v_seq ?_|refine v_reg ?_|refine v_dreg ?_|refine v_bs ?_|refine v_ret ?_|refine v_skip ?_|refine v_ct rfl ?_|refine v_cf rfl ?_)
   |refine s_r ?_
   |refine sk_zero ?_
   |refine sk_succ ?_
   |refine wk_nil ?_
   |refine wk_cons ?_)
  all_goals exact fa_r (fun _ _=>rfl) (Pm.ent pmt) ⟨x,rfl,rfl,rfl⟩
section
variable {a:Nat} {x:HX} {n:Int} {ka kb kc:Nat}
theorem smp_2(h:Sound x.H)(hP:ActP ⟨2,ka,kb,kc,n⟩):FnA Tryd.prog 41 [eV a,.agg #[.int .i64 2,.int .i64 ka,.int .i64 kb,.int .i64 kc,.int .i64 n]] (hp a x) (fun v As=>∃z:HX,v=an 0 0∧As=hp a z∧z.H=x.H.setR ka ⟨1,n,0⟩):=by
 have hQ:=hP
 simp[ActP,aMost,bMost,cMost]at hQ
 have hnr:x.hdr.nr=x.regs.length:=rfl
 have h16:x.regs.length=16:=h.r1.regs
 obtain⟨w,gw⟩:∃w,x.regs[ka]?=some w:=⟨_,List.getElem?_eq_getElem (by omega)⟩
 refine fnA_of (fun h=>fn41 (by simp) h) ?_
 repeat' (first
  |(refine k_L ?_;first|(refine k_l ?_;refine g_l rfl ?_)|(refine k_i ?_;refine g_i rfl rfl ?_)|(refine k_st ?_;first|refine g_st rfl rfl rfl rfl ?_|refine g_sw rfl rfl rfl rfl (Nat.le_of_ble_eq_true rfl) ?_)|(refine k_al ?_;refine a_al ?_)|(refine k_bx ?_;refine a_bx rfl rfl ?_)|(refine k_c ?_;refine a_cq rfl (fun m hm=>numE_q) ?_)|(refine b_w ⟨1,n,0⟩ rfl ?_)|(refine b_p rfl ?_))
  |refine a_n ?_
  |(refine k_V ?_;first|refine v_seq ?_|refine v_reg ?_|refine v_dreg ?_|refine v_bs ?_|refine v_ret ?_|refine v_ct rfl ?_|refine v_cf rfl ?_)
  |refine sk_zero ?_
  |refine sk_succ ?_
  |refine wk_nil ?_
  |refine wk_cons ?_)
 all_goals exact fa_r (fun _ _=>rfl) (Pm.ent (fin ({x with regs:=x.regs.set ka ⟨1,n,0⟩}:HX) (h1:=by simp[HX.hdr]))) ⟨_,rfl,rfl,rfl⟩
theorem smp_3(h:Sound x.H)(hP:ActP ⟨3,ka,kb,kc,n⟩):FnA Tryd.prog 41 [eV a,.agg #[.int .i64 3,.int .i64 ka,.int .i64 kb,.int .i64 kc,.int .i64 n]] (hp a x) (fun v As=>∃z:HX,v=an 0 0∧As=hp a z∧z.H=x.H.setR ka ⟨0,0,0⟩):=by
 have hQ:=hP
 simp[ActP,aMost,bMost,cMost]at hQ
 have hnr:x.hdr.nr=x.regs.length:=rfl
 have h16:x.regs.length=16:=h.r1.regs
 obtain⟨w,gw⟩:∃w,x.regs[ka]?=some w:=⟨_,List.getElem?_eq_getElem (by omega)⟩
 refine fnA_of (fun h=>fn41 (by simp) h) ?_
 repeat' (first
  |(refine k_L ?_;first|(refine k_l ?_;refine g_l rfl ?_)|(refine k_i ?_;refine g_i rfl rfl ?_)|(refine k_st ?_;first|refine g_st rfl rfl rfl rfl ?_|refine g_sw rfl rfl rfl rfl (Nat.le_of_ble_eq_true rfl) ?_)|(refine k_al ?_;refine a_al ?_)|(refine k_bx ?_;refine a_bx rfl rfl ?_)|(refine k_c ?_;refine a_cq rfl (fun m hm=>numE_q) ?_)|(refine b_w ⟨0,0,0⟩ rfl ?_)|(refine b_p rfl ?_))
  |refine a_n ?_
  |(refine k_V ?_;first|refine v_seq ?_|refine v_reg ?_|refine v_dreg ?_|refine v_bs ?_|refine v_ret ?_|refine v_ct rfl ?_|refine v_cf rfl ?_)
  |refine sk_zero ?_
  |refine sk_succ ?_
  |refine wk_nil ?_
  |refine wk_cons ?_)
 all_goals exact fa_r (fun _ _=>rfl) (Pm.ent (fin ({x with regs:=x.regs.set ka ⟨0,0,0⟩}:HX) (h1:=by simp[HX.hdr]))) ⟨_,rfl,rfl,rfl⟩
theorem smp_4(h:Sound x.H)(hP:ActP ⟨4,ka,kb,kc,n⟩):FnA Tryd.prog 41 [eV a,.agg #[.int .i64 4,.int .i64 ka,.int .i64 kb,.int .i64 kc,.int .i64 n]] (hp a x) (fun v As=>∃z:HX,v=an 0 0∧As=hp a z∧z.H=x.H.setR ka (x.H.getR kb)):=by
 have hQ:=hP
 simp[ActP,aMost,bMost,cMost]at hQ
 have hnr:x.hdr.nr=x.regs.length:=rfl
 have h16:x.regs.length=16:=h.r1.regs
 obtain⟨w,gw⟩:∃w,x.regs[ka]?=some w:=⟨_,List.getElem?_eq_getElem (by omega)⟩
 obtain⟨v,gv⟩:∃w,x.regs[kb]?=some w:=⟨_,List.getElem?_eq_getElem (by omega)⟩
 rw[getR_at gv]
 refine fnA_of (fun h=>fn41 (by simp) h) ?_
 repeat' (first
  |(refine k_L ?_;first|refine a_p rfl ?_|(refine k_l ?_;refine g_l rfl ?_)|(refine k_i ?_;refine g_i rfl rfl ?_)|(refine k_ls ?_;refine g_ls rfl ?_)|(refine k_st ?_;first|refine g_st rfl rfl rfl rfl ?_|refine g_sw rfl rfl rfl rfl (Nat.le_of_ble_eq_true rfl) ?_)|(refine k_al ?_;refine a_al ?_)|(refine k_bx ?_;refine a_bx rfl rfl ?_)|(refine k_c ?_;refine a_cq rfl (fun m hm=>numE_q) ?_))
  |refine a_n ?_
  |(refine k_V ?_;first|refine v_seq ?_|refine v_reg ?_|refine v_dreg ?_|refine v_bs ?_|refine v_ret ?_|refine v_ct rfl ?_|refine v_cf rfl ?_)
  |refine sk_zero ?_
  |refine sk_succ ?_
  |refine wk_nil ?_
  |refine wk_cons ?_)
 all_goals exact fa_r (fun _ _=>rfl) (Pm.ent (fin ({x with regs:=x.regs.set ka v}:HX) (h1:=by simp[HX.hdr]))) ⟨_,rfl,rfl,rfl⟩
theorem smp_13(h:Sound x.H)(hP:ActP ⟨13,ka,kb,kc,n⟩):FnA Tryd.prog 41 [eV a,.agg #[.int .i64 13,.int .i64 ka,.int .i64 kb,.int .i64 kc,.int .i64 n]] (hp a x) (fun v As=>v=an 0 (if x.H.getR ka=x.H.getR kb then 1 else 0)∧As=hp a x):=by
 have hQ:=hP
 simp[ActP,aMost,bMost,cMost]at hQ
 have hnr:x.hdr.nr=x.regs.length:=rfl
 have h16:x.regs.length=16:=h.r1.regs
 obtain⟨w,gw⟩:∃w,x.regs[ka]?=some w:=⟨_,List.getElem?_eq_getElem (by omega)⟩
 obtain⟨v,gv⟩:∃w,x.regs[kb]?=some w:=⟨_,List.getElem?_eq_getElem (by omega)⟩
 rw[getR_at gv,getR_at gw]
 obtain⟨wk,wn,wat⟩:=w
 obtain⟨vk,vn,vat⟩:=v
 refine fnA_of (fun h=>fn41 (by simp) h) ?_
 repeat' (first
  |(refine k_L ?_;first|refine a_p rfl ?_|(refine k_l ?_;refine g_l rfl ?_)|(refine k_i ?_;refine g_i rfl rfl ?_)|(refine k_ls ?_;refine g_ls rfl ?_)|(refine k_st ?_;refine g_sw rfl rfl rfl rfl (Nat.le_of_ble_eq_true rfl) ?_)|(refine k_al ?_;refine a_al ?_)|(refine k_bx ?_;refine a_bx rfl rfl ?_)|(refine k_c ?_;refine a_cq rfl (fun m hm=>numE_q) ?_))
  |refine a_n ?_
  |(refine k_V ?_;first|refine v_seq ?_|refine v_reg ?_|refine v_dreg ?_|refine v_bs ?_|refine v_ret ?_|refine v_skip ?_|refine v_ct rfl ?_|refine v_cf rfl ?_|(refine v_cond _ rfl (fun hb=>?_) (fun hb=>?_)))
  |refine s_r ?_
  |refine b_r ?_
  |refine sk_zero ?_
  |refine sk_succ ?_
  |refine wk_nil ?_
  |refine wk_cons ?_)
 ·have e:wk=vk∧wn=vn∧wat=vat:=by simpa using hb
  refine fa_r (fun _ _=>rfl) (Pm.ent pmt) ⟨?_,rfl⟩
  rw[if_pos (by rw[e.1,e.2.1,e.2.2])];rfl
 ·have e:¬(wk=vk∧wn=vn∧wat=vat):=fun e=>by
   obtain⟨rfl,rfl,rfl⟩:=e
   simp at hb
  refine fa_r (fun _ _=>rfl) (Pm.ent pmt) ⟨?_,rfl⟩
  rw[if_neg (fun h=>e (by rw[Word.mk.injEq]at h;exact h))];rfl
theorem smp_14(h:Sound x.H)(hP:ActP ⟨14,ka,kb,kc,n⟩):FnA Tryd.prog 41 [eV a,.agg #[.int .i64 14,.int .i64 ka,.int .i64 kb,.int .i64 kc,.int .i64 n]] (hp a x) (fun v As=>v=an 0 (x.H.getR ka).kind∧As=hp a x):=by
 have hQ:=hP
 simp[ActP,aMost,bMost,cMost]at hQ
 have hnr:x.hdr.nr=x.regs.length:=rfl
 have h16:x.regs.length=16:=h.r1.regs
 obtain⟨w,gw⟩:∃w,x.regs[ka]?=some w:=⟨_,List.getElem?_eq_getElem (by omega)⟩
 rw[getR_at gw]
 refine fnA_of (fun h=>fn41 (by simp) h) ?_
 repeat' (first
  |(refine k_L ?_;first|refine a_p rfl ?_|(refine k_l ?_;first|refine a_l rfl (by exact rd_t (rd_h (rd_sl (fun _=>rfl) gw rfl))) ?_|refine g_l rfl ?_)|(refine k_i ?_;refine g_i rfl rfl ?_)|(refine k_st ?_;refine g_sw rfl rfl rfl rfl (Nat.le_of_ble_eq_true rfl) ?_)|(refine k_al ?_;refine a_al ?_)|(refine k_bx ?_;refine a_bx rfl rfl ?_)|(refine k_q ?_;refine a_q rfl (fun m hm=>numE_q) ?_))
  |refine a_n ?_
  |(refine k_V ?_;first|refine v_seq ?_|refine v_reg ?_|refine v_dreg ?_|refine v_bs ?_|refine v_ret ?_|refine v_ct rfl ?_|refine v_cf rfl ?_)
  |refine s_r ?_
  |refine b_r ?_
  |refine sk_zero ?_
  |refine sk_succ ?_
  |refine wk_nil ?_
  |refine wk_cons ?_)
 all_goals exact fa_r (fun _ _=>rfl) (Pm.ent pmt) ⟨rfl,rfl⟩
theorem smp_15(h:Sound x.H)(hP:ActP ⟨15,ka,kb,kc,n⟩):FnA Tryd.prog 41 [eV a,.agg #[.int .i64 15,.int .i64 ka,.int .i64 kb,.int .i64 kc,.int .i64 n]] (hp a x) (fun v As=>v=(if(x.H.getR ka).kind=1 then an 0 (x.H.getR ka).num else an 2 0)∧As=hp a x):=by
 have hQ:=hP
 simp[ActP,aMost,bMost,cMost]at hQ
 have hnr:x.hdr.nr=x.regs.length:=rfl
 have h16:x.regs.length=16:=h.r1.regs
 obtain⟨w,gw⟩:∃w,x.regs[ka]?=some w:=⟨_,List.getElem?_eq_getElem (by omega)⟩
 rw[getR_at gw]
 refine fnA_of (fun h=>fn41 (by simp) h) ?_
 by_cases hk:w.kind=1
 ·rw[if_pos hk]
  repeat' (first
   |(refine k_L ?_;first|refine a_p rfl ?_|(refine k_l ?_;first|refine a_l rfl (by exact rd_t (rd_h (rd_sl (fun _=>rfl) gw rfl))) ?_|refine g_l rfl ?_)|(refine k_i ?_;refine g_i rfl rfl ?_)|(refine k_st ?_;refine g_sw rfl rfl rfl rfl (Nat.le_of_ble_eq_true rfl) ?_)|(refine k_al ?_;refine a_al ?_)|(refine k_bx ?_;refine a_bx rfl rfl ?_))
   |refine a_n ?_
   |(refine k_V ?_;first|refine v_seq ?_|refine v_reg ?_|refine v_dreg ?_|refine v_bs ?_|refine v_ret ?_|refine v_skip ?_|refine v_ct rfl ?_|refine v_cf rfl ?_|(refine v_cn rfl (fun hb=>?_) (fun hb=>?_)<;>try(exfalso;omega)))
   |refine s_r ?_
   |refine b_r ?_
   |refine sk_zero ?_
   |refine sk_succ ?_
   |refine wk_nil ?_
   |refine wk_cons ?_)
  all_goals exact fa_r (fun _ _=>rfl) (Pm.ent pmt) ⟨rfl,rfl⟩
 ·rw[if_neg hk]
  repeat' (first
   |(refine k_L ?_;first|refine a_p rfl ?_|(refine k_l ?_;first|refine a_l rfl (by exact rd_t (rd_h (rd_sl (fun _=>rfl) gw rfl))) ?_|refine g_l rfl ?_)|(refine k_i ?_;refine g_i rfl rfl ?_)|(refine k_st ?_;refine g_sw rfl rfl rfl rfl (Nat.le_of_ble_eq_true rfl) ?_)|(refine k_al ?_;refine a_al ?_)|(refine k_bx ?_;refine a_bx rfl rfl ?_)|(refine k_c ?_;refine a_cq rfl (fun m hm=>codeE_q) ?_))
   |refine a_n ?_
   |(refine k_V ?_;first|refine v_seq ?_|refine v_reg ?_|refine v_dreg ?_|refine v_bs ?_|refine v_ret ?_|refine v_ct rfl ?_|refine v_cf rfl ?_|(refine v_cn rfl (fun hb=>?_) (fun hb=>?_)<;>try(exfalso;omega)))
   |refine s_r ?_
   |refine b_r ?_
   |refine sk_zero ?_
   |refine sk_succ ?_
   |refine wk_nil ?_
   |refine wk_cons ?_)
  all_goals exact fa_r (fun _ _=>rfl) (Pm.ent pmt) ⟨rfl,rfl⟩
end
section
variable {a:Nat} {x:HX} {n:Int} {ka kb kc:Nat}
theorem smp_18(h:Sound x.H)(hP:ActP ⟨18,ka,kb,kc,n⟩):FnA Tryd.prog 41 [eV a,.agg #[.int .i64 18,.int .i64 ka,.int .i64 kb,.int .i64 kc,.int .i64 n]] (hp a x) (fun v As=>∃z:HX,v=an 0 (d2 x.H x.H.cells.length:Nat)∧As=hp a z∧z.H=x.H.settleH):=by
 refine fnA_of (fun h=>fn41 (by simp) h) ?_
 repeat' (first
  |(refine k_L ?_;first|refine a_p rfl ?_|(refine k_st ?_;refine g_sw rfl rfl rfl rfl (Nat.le_of_ble_eq_true rfl) ?_)|(refine k_al ?_;refine a_al ?_)|(refine k_bx ?_;refine a_bx rfl rfl ?_)|(refine k_c ?_;refine a_cq rfl (fun m hm=>numE_q) ?_)|(refine g_c rfl (settle_a (x:=x) h) (fun v As' hq=>?_);obtain⟨z,rfl,rfl,hz⟩:=hq))
  |refine a_n ?_
  |(refine k_V ?_;first|refine v_seq ?_|refine v_reg ?_|refine v_bs ?_|refine v_ret ?_|refine v_ct rfl ?_|refine v_cf rfl ?_)
  |refine s_r ?_
  |refine b_r ?_
  |refine sk_zero ?_
  |refine sk_succ ?_
  |refine wk_nil ?_
  |refine wk_cons ?_)
 all_goals exact fa_r (fun _ _=>rfl) (Pm.ent pmt) ⟨z,rfl,rfl,hz⟩
theorem smp_19(h:Sound x.H)(hP:ActP ⟨19,ka,kb,kc,n⟩):FnA Tryd.prog 41 [eV a,.agg #[.int .i64 19,.int .i64 ka,.int .i64 kb,.int .i64 kc,.int .i64 n]] (hp a x) (fun v As=>∃z:HX,v=an (doDue x.H ⟨19,ka,kb,kc,n⟩).code (doDue x.H ⟨19,ka,kb,kc,n⟩).num∧As=hp a z∧z.H=(doDue x.H ⟨19,ka,kb,kc,n⟩).heap):=by
 have hQ:=hP
 simp[ActP,aMost,bMost,cMost]at hQ
 have hnr:x.hdr.nr=x.regs.length:=rfl
 have h16:x.regs.length=16:=h.r1.regs
 obtain⟨w,gw⟩:∃w,x.regs[ka]?=some w:=⟨_,List.getElem?_eq_getElem (by omega)⟩
 have hl:=x.len
 have hnc:x.hdr.nc=x.xs.length:=rfl
 unfold doDue
 dsimp only
 refine fnA_of (fun h=>fn41 (by simp) h) ?_
 by_cases c:ndG x.H x.H.cells.length<0
 ·rw[if_pos c]
  repeat' (first
   |(refine k_L ?_;first|(refine k_l ?_;refine g_l rfl ?_)|(refine k_i ?_;refine g_i rfl rfl ?_)|(refine k_st ?_;first|refine g_st rfl rfl rfl rfl ?_|refine g_sw rfl rfl rfl rfl (Nat.le_of_ble_eq_true rfl) ?_)|(refine k_al ?_;refine a_al ?_)|(refine k_bx ?_;refine a_bx rfl rfl ?_)|(refine k_c ?_;first|refine a_cq rfl (fun m hm=>numE_q) ?_|refine a_cq rfl (fun m hm=>nextDueLoop_q (x:=x) (sep_has hm pmt) h.r2) ?_)|(refine b_w ⟨0,0,0⟩ rfl ?_)|(refine b_p rfl ?_))
   |refine a_n ?_
   |(refine k_V ?_;first|refine v_seq ?_|refine v_reg ?_|refine v_dreg ?_|refine v_bs ?_|refine v_ret ?_|refine v_ct rfl ?_|refine v_cf rfl ?_|(refine v_cd rfl (fun hb=>?_) (fun hb=>?_)<;>try(exfalso;omega)))
   |refine s_r ?_
   |refine b_r ?_
   |refine sk_zero ?_
   |refine sk_succ ?_
   |refine wk_nil ?_
   |refine wk_cons ?_)
  all_goals exact fa_r (fun _ _=>rfl) (Pm.ent (fin ({x with regs:=x.regs.set ka ⟨0,0,0⟩}:HX) (h1:=by simp[HX.hdr]))) ⟨_,rfl,rfl,rfl⟩
 ·rw[if_neg c]
  obtain⟨j,hj⟩:=Int.eq_ofNat_of_zero_le (show 0≤ndG x.H x.H.cells.length by omega)
  have hjl:=(ndG_lt x.H x.H.cells.length).2
  rw[hj]at hjl⊢
  obtain⟨y,gy,gc⟩:=HX.at (x:=x) (i:=j) (by omega)
  have gk:=HX.gc gy
  repeat' (first
   |(refine k_L ?_;first|(refine k_l ?_;refine g_l rfl ?_)|(refine k_i ?_;refine g_i rfl rfl ?_)|(refine k_st ?_;first|refine g_st rfl rfl rfl rfl ?_|refine g_sw rfl rfl rfl rfl (Nat.le_of_ble_eq_true rfl) ?_)|(refine k_al ?_;refine a_al ?_)|(refine k_bx ?_;refine a_bx rfl rfl ?_)|(refine k_c ?_;first|refine a_cq rfl (fun m hm=>numE_q) ?_|refine a_cq rfl (fun m hm=>qt_e (nextDueLoop_q (x:=x) (sep_has hm pmt) h.r2) (by rw[hj])) ?_)|(refine b_w ⟨2,0,j⟩ rfl ?_)|(refine b_p rfl ?_))
   |refine a_n ?_
   |(refine k_V ?_;first|refine v_seq ?_|refine v_reg ?_|refine v_dreg ?_|refine v_bs ?_|refine v_ret ?_|refine v_skip ?_|refine v_ct rfl ?_|refine v_cf rfl ?_)
   |refine s_r ?_
   |refine b_r ?_
   |refine sk_zero ?_
   |refine sk_succ ?_
   |refine wk_nil ?_
   |refine wk_cons ?_)
  refine fa_r (fun _ _=>rfl) (Pm.ent (fin ({x with xs:=x.xs.set j (y.s_last 3),regs:=x.regs.set ka ⟨2,0,j⟩}:HX) (h1:=by simp[HX.hdr]) (h2:=by simp[HX.hdr]) (e1:=by simp[HX.hdr]))) ⟨_,rfl,rfl,?_⟩
  unfold Heap.putL Heap.setR
  rw[Int.toNat_natCast,gk]
  unfold HX.H
  simp only[List.map_set];rfl
theorem smp_20(h:Sound x.H)(hP:ActP ⟨20,ka,kb,kc,n⟩):FnA Tryd.prog 41 [eV a,.agg #[.int .i64 20,.int .i64 ka,.int .i64 kb,.int .i64 kc,.int .i64 n]] (hp a x) (fun v As=>v=an 0 (sumT x.H (heldL x.H) x.H.cells.length)∧As=hp a x):=by
 refine fna_rd fun m hm=>?_
 have hh:Has m (hp a x):=⟨m,Mem.le_refl _,hm⟩
 refine fnA_of (fun h=>fn41 (by simp) h) ?_
 repeat' (first
  |(refine k_L ?_;first|refine a_p rfl ?_|(refine k_al ?_;refine a_al ?_)|(refine k_bx ?_;refine a_bx rfl rfl ?_))
  |refine a_n ?_
  |(refine k_V ?_;first|refine v_seq ?_|refine v_reg ?_|refine v_bs ?_|refine v_ct rfl ?_|refine v_cf rfl ?_))
 refine v_hreg (Gs:=[ro m]) [] pmt ?_
 repeat' (first
  |(refine k_L ?_;first|refine a_p rfl ?_|(refine k_st ?_;refine g_sw rfl rfl rfl rfl (Nat.le_of_ble_eq_true rfl) ?_)|(refine k_c ?_;refine a_cq rfl (fun m hm=>numE_q) ?_)|(refine g_c rfl (holds_a (x:=x) hh h.r1 h.r2 h.r4) (fun v As' hq=>?_);obtain⟨sd,rfl,rfl⟩:=hq)|(refine g_c rfl (sum_a (x:=x) (L:=heldL x.H) (sd:=sd) hh h.r1 h.r2 (by rw[heldL_len,x.len])) (fun v As' hq=>?_);obtain⟨rfl,rfl⟩:=hq))
  |refine a_n ?_
  |(refine k_V ?_;refine v_ret ?_)
  |refine s_r ?_
  |refine b_r ?_
  |refine sk_zero ?_
  |refine sk_succ ?_
  |refine wk_nil ?_
  |refine wk_cons ?_
  |refine t_a ?_ t_n
  |refine t_f ?_ t_n
  |refine t_d ?_
  |refine kl_1 rfl ?_
  |refine kl_0 ?_)
 all_goals exact fa_r (As':=[ro m]) (fun _ _=>rfl) (Pm.ent pmt) ⟨by rw[x.len];rfl,rfl⟩
theorem smp_21(h:Sound x.H)(hP:ActP ⟨21,ka,kb,kc,n⟩):FnA Tryd.prog 41 [eV a,.agg #[.int .i64 21,.int .i64 ka,.int .i64 kb,.int .i64 kc,.int .i64 n]] (hp a x) (fun v As=>v=an 0 (sumT x.H (reachL x.H) x.H.cells.length)∧As=hp a x):=by
 refine fna_rd fun m hm=>?_
 have hh:Has m (hp a x):=⟨m,Mem.le_refl _,hm⟩
 refine fnA_of (fun h=>fn41 (by simp) h) ?_
 repeat' (first
  |(refine k_L ?_;first|refine a_p rfl ?_|(refine k_al ?_;refine a_al ?_)|(refine k_bx ?_;refine a_bx rfl rfl ?_))
  |refine a_n ?_
  |(refine k_V ?_;first|refine v_seq ?_|refine v_reg ?_|refine v_bs ?_|refine v_ct rfl ?_|refine v_cf rfl ?_))
 refine v_hreg (Gs:=[ro m]) [] pmt ?_
 repeat' (first
  |(refine k_L ?_;first|refine a_p rfl ?_|(refine k_st ?_;refine g_sw rfl rfl rfl rfl (Nat.le_of_ble_eq_true rfl) ?_)|(refine k_c ?_;refine a_cq rfl (fun m hm=>numE_q) ?_)|(refine g_c rfl (reach_a (x:=x) hh h.r1 h.r2 h.r4) (fun v As' hq=>?_);obtain⟨sd,rfl,rfl⟩:=hq)|(refine g_c rfl (sum_a (x:=x) (L:=reachL x.H) (sd:=sd) hh h.r1 h.r2 (by rw[reachL_len,x.len])) (fun v As' hq=>?_);obtain⟨rfl,rfl⟩:=hq))
  |refine a_n ?_
  |(refine k_V ?_;refine v_ret ?_)
  |refine s_r ?_
  |refine b_r ?_
  |refine sk_zero ?_
  |refine sk_succ ?_
  |refine wk_nil ?_
  |refine wk_cons ?_
  |refine t_a ?_ t_n
  |refine t_f ?_ t_n
  |refine t_d ?_
  |refine kl_1 rfl ?_
  |refine kl_0 ?_)
 all_goals exact fa_r (As':=[ro m]) (fun _ _=>rfl) (Pm.ent pmt) ⟨by rw[x.len];rfl,rfl⟩
theorem smp_22(h:Sound x.H)(hP:ActP ⟨22,ka,kb,kc,n⟩):FnA Tryd.prog 41 [eV a,.agg #[.int .i64 22,.int .i64 ka,.int .i64 kb,.int .i64 kc,.int .i64 n]] (hp a x) (fun v As=>∃z:HX,v=an 0 0∧As=hp a z∧z.H=x.H.stepH kc):=by
 have hQ:=hP
 simp[ActP,aMost,bMost,cMost]at hQ
 refine fnA_of (fun h=>fn41 (by simp) h) ?_
 by_cases c:kc=0
 ·subst c
  have e:x.H.stepH (0:Nat)=x.H:=by unfold Heap.stepH;rfl
  rw[e]
  repeat' (first
   |(refine k_L ?_;first|refine a_p rfl ?_|(refine k_g ?_;refine a_gy rfl rfl ?_)|(refine k_st ?_;refine g_sw rfl rfl rfl rfl (Nat.le_of_ble_eq_true rfl) ?_)|(refine k_al ?_;refine a_al ?_)|(refine k_bx ?_;refine a_bx rfl rfl ?_)|(refine k_c ?_;refine a_cq rfl (fun m hm=>numE_q) ?_))
   |refine a_n ?_
   |(refine k_V ?_;first|refine v_seq ?_|refine v_reg ?_|refine v_bs ?_|refine v_ret ?_|refine v_skip ?_|refine v_ct rfl ?_|refine v_cf rfl ?_)
   |refine sk_zero ?_
   |refine sk_succ ?_
   |refine wk_nil ?_
   |refine wk_cons ?_)
  all_goals exact fa_r (fun _ _=>rfl) (Pm.ent pmt) ⟨x,rfl,rfl,rfl⟩
 ·have hn:(kc:Int)≠0:=by omega
  have pb:x.begin.H=x.H.beginH:=begin_H
  have hsb:Sound x.begin.H:=by
   rw[pb];unfold Heap.beginH
   split
   ·exact begin_sound h ‹_›
   ·exact h
  repeat' (first
   |(refine k_L ?_;first|refine a_p rfl ?_|(refine k_g ?_;refine a_gy rfl rfl ?_)|(refine k_st ?_;refine g_sw rfl rfl rfl rfl (Nat.le_of_ble_eq_true rfl) ?_)|(refine k_al ?_;refine a_al ?_)|(refine k_bx ?_;refine a_bx rfl rfl ?_)|(refine k_c ?_;refine a_cq rfl (fun m hm=>numE_q) ?_)|(refine g_c rfl (begin_a (x:=x)) (fun v As' hq=>?_);subst hq)|(refine g_c rfl (step_a (x:=x.begin) (n:=(kc:Int)) hsb (by omega)) (fun v As' hq=>?_);obtain⟨z,rfl,rfl,hz⟩:=hq))
   |refine a_n ?_
   |(refine k_V ?_;first|refine v_seq ?_|refine v_reg ?_|refine v_bs ?_|refine v_ret ?_|refine v_ct rfl ?_|refine v_cf rfl ?_|(refine v_cd rfl (fun hb=>?_) (fun hb=>?_)<;>try(exfalso;omega)))
   |refine sk_zero ?_
   |refine sk_succ ?_
   |refine wk_nil ?_
   |refine wk_cons ?_)
  all_goals first
   |(exfalso;omega)
   |exact fa_r (fun _ _=>rfl) (Pm.ent pmt) ⟨z,rfl,rfl,by rw[hz,pb];unfold Heap.stepH stepN;rw[if_neg hn,if_neg hn]⟩
theorem smp_23(h:Sound x.H)(hP:ActP ⟨23,ka,kb,kc,n⟩):FnA Tryd.prog 41 [eV a,.agg #[.int .i64 23,.int .i64 ka,.int .i64 kb,.int .i64 kc,.int .i64 n]] (hp a x) (fun v As=>∃z:HX,v=an 0 0∧As=hp a z∧z.H={x.H with per:=kb,start:=kc}):=by
 refine fnA_of (fun h=>fn41 (by simp) h) ?_
 repeat' (first
  |(refine k_L ?_;first|refine a_p rfl ?_|(refine k_al ?_;refine a_al ?_)|(refine k_bx ?_;refine a_bx rfl rfl ?_))
  |refine a_n ?_
  |(refine k_V ?_;first|refine v_seq ?_|refine v_reg ?_|refine v_bs ?_|refine v_ct rfl ?_|refine v_cf rfl ?_))
 refine v_hreg (Gs:=hp a x) [] pmt ?_
 repeat' (first
  |(refine k_L ?_;first|refine a_p rfl ?_|(refine k_st ?_;first|refine g_st rfl rfl rfl rfl ?_|refine g_sw rfl rfl rfl rfl (Nat.le_of_ble_eq_true rfl) ?_)|(refine k_c ?_;refine a_cq rfl (fun m hm=>numE_q) ?_))
  |refine a_n ?_
  |(refine k_V ?_;first|refine v_seq ?_|refine v_reg ?_|refine v_ret ?_)
  |refine sk_zero ?_
  |refine sk_succ ?_
  |refine wk_nil ?_
  |refine wk_cons ?_
  |refine t_a ?_ t_n
  |refine t_f ?_ t_n
  |refine t_d ?_
  |refine kl_1 rfl ?_
  |refine kl_0 ?_)
 all_goals exact fa_r (fun _ _=>rfl) (Pm.ent (fin ({x with per:=kb,start:=kc}:HX))) ⟨_,rfl,rfl,rfl⟩
theorem smp_24(h:Sound x.H)(hP:ActP ⟨24,ka,kb,kc,n⟩):FnA Tryd.prog 41 [eV a,.agg #[.int .i64 24,.int .i64 ka,.int .i64 kb,.int .i64 kc,.int .i64 n]] (hp a x) (fun v As=>∃z:HX,v=an 0 0∧As=hp a z∧z.H=x.H.roundH):=by
 refine fnA_of (fun h=>fn41 (by simp) h) ?_
 repeat' (first
  |(refine k_L ?_;first|refine a_p rfl ?_|(refine k_st ?_;refine g_sw rfl rfl rfl rfl (Nat.le_of_ble_eq_true rfl) ?_)|(refine k_al ?_;refine a_al ?_)|(refine k_bx ?_;refine a_bx rfl rfl ?_)|(refine k_c ?_;refine a_cq rfl (fun m hm=>numE_q) ?_)|(refine g_c rfl (round_a (x:=x) h) (fun v As' hq=>?_);obtain⟨z,rfl,hz⟩:=hq))
  |refine a_n ?_
  |(refine k_V ?_;first|refine v_seq ?_|refine v_reg ?_|refine v_bs ?_|refine v_ret ?_|refine v_ct rfl ?_|refine v_cf rfl ?_)
  |refine sk_zero ?_
  |refine sk_succ ?_
  |refine wk_nil ?_
  |refine wk_cons ?_)
 all_goals exact fa_r (fun _ _=>rfl) (Pm.ent pmt) ⟨z,rfl,rfl,hz⟩
end
def outE(a:Nat)(o:Out):Value→List Asr→Prop:=fun v As=>∃z:HX,v=an o.code o.num∧As=hp a z∧z.H=o.heap
section
variable {a:Nat} {x:HX} {op n:Int} {ka kb kc:Nat} {o:Out}
theorem smp_1(h:Sound x.H)(ha:ka≤15)(hb:kb≤255)(hc:kc≤200):FnA Tryd.prog 41 [eV a,.agg #[.int .i64 1,.int .i64 ka,.int .i64 kb,.int .i64 kc,.int .i64 n]] (hp a x) (outE a (doNew x.H ⟨1,ka,kb,kc,n⟩)):=by
 refine fnA_of (fun h=>fn41 (by simp) h) ?_
 repeat' (first
  |(refine k_L ?_;first|refine a_p rfl ?_|(refine k_st ?_;refine g_sw rfl rfl rfl rfl (Nat.le_of_ble_eq_true rfl) ?_)|(refine k_al ?_;refine a_al ?_)|(refine k_bx ?_;refine a_bx rfl rfl ?_)|(refine g_c rfl (make_a (x:=x) (op:=1) (n:=n) h ha hb hc) (fun v As' hq=>?_);obtain⟨z,rfl,rfl,hz⟩:=hq))
  |refine a_n ?_
  |(refine k_V ?_;first|refine v_seq ?_|refine v_reg ?_|refine v_bs ?_|refine v_ret ?_|refine v_ct rfl ?_)
  |refine s_r ?_
  |refine b_r ?_
  |refine sk_zero ?_
  |refine sk_succ ?_
  |refine wk_nil ?_
  |refine wk_cons ?_)
 exact fa_r (fun _ _=>rfl) (Pm.ent pmt) ⟨z,rfl,rfl,hz⟩
theorem doS(hop:¬(5≤op∧op≤12)∧op≠16∧op≠17)(hs:FnA Tryd.prog 41 [eV a,.agg #[.int .i64 op,.int .i64 ka,.int .i64 kb,.int .i64 kc,.int .i64 n]] (hp a x) (outE a o)):
 FnA Tryd.prog 39 [eV a,.agg #[.int .i64 op,.int .i64 ka,.int .i64 kb,.int .i64 kc,.int .i64 n]] (hp a x) (outE a o):=by
 refine fnA_of (fun h=>fn39 (by simp) h) ?_
 repeat' (first
  |(refine k_L ?_;first|refine a_p rfl ?_|(refine k_st ?_;refine g_sw rfl rfl rfl rfl (Nat.le_of_ble_eq_true rfl) ?_)|(refine k_al ?_;refine a_al ?_)|(refine k_bx ?_;refine a_bx rfl rfl ?_)|(refine g_c rfl hs (fun v As' hq=>?_);obtain⟨z,rfl,rfl,hz⟩:=hq))
  |refine a_n ?_
  |(refine k_V ?_;first|refine v_seq ?_|refine v_reg ?_|refine v_bs ?_|refine v_ret ?_|(refine v_cd rfl (fun hb=>?_) (fun hb=>?_)<;>try(exfalso;omega)))
  |refine s_r ?_
  |refine b_r ?_
  |refine sk_zero ?_
  |refine sk_succ ?_
  |refine wk_nil ?_
  |refine wk_cons ?_)
 all_goals exact fa_r (fun _ _=>rfl) (Pm.ent pmt) ⟨z,rfl,rfl,hz⟩
end
theorem doE_a{a:Nat}{x:HX}{op n:Int}{ka kb kc:Nat}(h:Sound x.H)(hP:ActP ⟨op,ka,kb,kc,n⟩):FnA Tryd.prog 39 [eV a,.agg #[.int .i64 op,.int .i64 ka,.int .i64 kb,.int .i64 kc,.int .i64 n]] (hp a x) (outE a (doA x.H ⟨op,ka,kb,kc,n⟩)):=by
 have hP0:=hP
 obtain⟨⟨h1,h2⟩,h3,⟨h4,h4'⟩,⟨h5,h5'⟩,h6,h6'⟩:=hP0
 dsimp only at h1 h2 h4 h5 h6 h4' h5' h6'
 have ka15:ka≤15:=by have:=aMost_le op;omega
 have ho:op=1∨op=2∨op=3∨op=4∨op=5∨op=6∨op=7∨op=8∨op=9∨op=10∨op=11∨op=12∨op=13∨op=14∨op=15∨op=16∨op=17∨op=18∨op=19∨op=20∨op=21∨op=22∨op=23∨op=24:=by omega
 rcases ho with rfl|rfl|rfl|rfl|rfl|rfl|rfl|rfl|rfl|rfl|rfl|rfl|rfl|rfl|rfl|rfl|rfl|rfl|rfl|rfl|rfl|rfl|rfl|rfl
 ·simp[bMost,cMost]at h5' h6'
  exact doS (by omega) (smp_1 h ka15 (by omega) (by omega))
 ·exact doS (by omega) (smp_2 h hP)
 ·exact doS (by omega) (smp_3 h hP)
 ·exact doS (by omega) (smp_4 h hP)
 ·simp[bMost,cMost]at h5' h6'
  exact doE_rd h ka15 (by omega) (by omega)
 ·simp[bMost,cMost]at h5' h6'
  exact doE_rd h ka15 (by omega) (by omega)
 ·simp[bMost,cMost]at h5' h6'
  exact doE_wr h ka15 (by omega) (by omega)
 ·simp[bMost,cMost]at h5' h6'
  exact doE_wr h ka15 (by omega) (by omega)
 ·simp[bMost,cMost]at h5' h6'
  exact doE_cell h ka15 (by omega) (by omega)
 ·simp[bMost,cMost]at h5' h6'
  exact doE_cell h ka15 (by omega) (by omega)
 ·simp[bMost,cMost]at h5' h6'
  exact doE_cell h ka15 (by omega) (by omega)
 ·simp[bMost,cMost]at h5' h6'
  exact doE_last h ka15 (by omega) rfl
 ·exact doS (by omega) ((smp_13 h hP).mono fun v As hq=>⟨x,hq.1,hq.2,rfl⟩)
 ·exact doS (by omega) ((smp_14 h hP).mono fun v As hq=>⟨x,hq.1,hq.2,rfl⟩)
 ·refine doS (by omega) ((smp_15 h hP).mono fun v As hq=>⟨x,?_,hq.2,?_⟩)
  ·rw[hq.1]
   show _=an (if(x.H.getR ka).kind=1 then(⟨x.H,0,(x.H.getR ka).num⟩:Out)else⟨x.H,2,0⟩).code (if(x.H.getR ka).kind=1 then(⟨x.H,0,(x.H.getR ka).num⟩:Out)else⟨x.H,2,0⟩).num
   split<;>rfl
  ·show x.H=(if(x.H.getR ka).kind=1 then(⟨x.H,0,(x.H.getR ka).num⟩:Out)else⟨x.H,2,0⟩).heap
   split<;>rfl
 ·simp[bMost,cMost]at h5' h6'
  exact doE_cell h ka15 (by omega) (by omega)
 ·simp[bMost,cMost]at h5' h6'
  exact doE_cell h ka15 (by omega) (by omega)
 ·exact doS (by omega) (smp_18 h hP)
 ·exact doS (by omega) (smp_19 h hP)
 ·exact doS (by omega) ((smp_20 h hP).mono fun v As hq=>⟨x,hq.1,hq.2,rfl⟩)
 ·exact doS (by omega) ((smp_21 h hP).mono fun v As hq=>⟨x,hq.1,hq.2,rfl⟩)
 ·exact doS (by omega) (smp_22 h hP)
 ·exact doS (by omega) (smp_23 h hP)
 ·exact doS (by omega) (smp_24 h hP)
theorem act_a{m:Mem}{a:Nat}{x:HX}{b:Act}(hf:Frm m)(h:Sound x.H):FnA Tryd.prog 27 [eV a,actV b] (hp a x++[ro m]) (fun v As=>∃z:HX,v=an (actA x.H b).code (actA x.H b).num∧As=hp a z++[ro m]∧z.H=(actA x.H b).heap):=by
 obtain⟨op,aa,ab,ac,n⟩:=b
 refine fnA_of (fun h=>fn27 (by simp) h) ?_
 by_cases hP:ActP ⟨op,aa,ab,ac,n⟩
 ·have e:actA x.H ⟨op,aa,ab,ac,n⟩=doA x.H ⟨op,aa,ab,ac,n⟩:=by unfold actA;rw[if_pos hP]
  rw[e]
  have hP0:=hP
  obtain⟨_,_,⟨h4,_⟩,⟨h5,_⟩,h6,_⟩:=hP0
  dsimp only at h4 h5 h6
  obtain⟨ka,rfl⟩:=Int.eq_ofNat_of_zero_le h4
  obtain⟨kb,rfl⟩:=Int.eq_ofNat_of_zero_le h5
  obtain⟨kc,rfl⟩:=Int.eq_ofNat_of_zero_le h6
  repeat' (first
   |(refine k_L ?_;first|refine a_p rfl ?_|(refine k_st ?_;refine g_sw rfl rfl rfl rfl (Nat.le_of_ble_eq_true rfl) ?_)|(refine k_al ?_;refine a_al ?_)|(refine k_bx ?_;refine a_bx rfl rfl ?_)|(refine k_c ?_;refine a_cq rfl (fun m hm=>qt_e (implActOk_q (a:=⟨op,ka,kb,kc,n⟩) (hf.le (ro_of hm pmt))) (congrArg Value.bool (decide_eq_true hP))) ?_)|(refine g_c rfl (doE_a (x:=x) (op:=op) (n:=n) (ka:=ka) (kb:=kb) (kc:=kc) h hP) (fun v As' hq=>?_);obtain⟨z,rfl,rfl,hz⟩:=hq))
   |refine a_n ?_
   |(refine k_V ?_;first|refine v_seq ?_|refine v_reg ?_|refine v_ret ?_|refine v_skip ?_|refine v_cf rfl ?_)
   |refine sk_zero ?_
   |refine sk_succ ?_
   |refine wk_nil ?_
   |refine wk_cons ?_)
  all_goals exact fa_r (As':=hp a z++[ro m]) (fun _ _=>rfl) (Pm.ent pmt) ⟨z,rfl,rfl,hz⟩
 ·have e:actA x.H ⟨op,aa,ab,ac,n⟩=⟨x.H,1,0⟩:=by unfold actA;rw[if_neg hP]
  rw[e]
  repeat' (first
   |(refine k_L ?_;first|refine a_p rfl ?_|(refine k_st ?_;refine g_sw rfl rfl rfl rfl (Nat.le_of_ble_eq_true rfl) ?_)|(refine k_al ?_;refine a_al ?_)|(refine k_bx ?_;refine a_bx rfl rfl ?_)|(refine k_c ?_;first|refine a_cq rfl (fun m hm=>codeE_q) ?_|refine a_cq rfl (fun m hm=>qt_e (implActOk_q (a:=⟨op,aa,ab,ac,n⟩) (hf.le (ro_of hm pmt))) (congrArg Value.bool (decide_eq_false hP))) ?_))
   |refine a_n ?_
   |(refine k_V ?_;first|refine v_seq ?_|refine v_reg ?_|refine v_ret ?_|refine v_ct rfl ?_)
   |refine s_r ?_
   |refine sk_zero ?_
   |refine sk_succ ?_
   |refine wk_nil ?_
   |refine wk_cons ?_)
  all_goals exact fa_r (As':=hp a x++[ro m]) (fun _ _=>rfl) (Pm.ent pmt) ⟨x,rfl,rfl,rfl⟩
theorem i_setval0{s:Ideal}{r q b:Int}{n:Nd}{p:Pair}(hr:0≤r∧r≤15)(hq:0≤q∧q≤15)(hw:s.getR r=Wc b)(hn:ndI s b=some n)(hp:n.pairs[0]?=some p):actI s ⟨8,r,q,0,0⟩=⟨s.upd b {n with pairs:=n.pairs.set 0 ⟨p.key,s.getR q⟩},0,0⟩:=i_setval (i:=0) hr hq (by omega) hw hn hp
def mlLoop(u i:Nat):List Act:=[⟨1,0,(i:Int)+1,1,0⟩,⟨12,0,0,1,0⟩,⟨1,1,0,1,0⟩,⟨8,0,1,0,0⟩,⟨2,2,0,0,100+((i:Int)+1)⟩,⟨8,1,2,0,0⟩,⟨22,0,0,u,0⟩]
def mlMid(u k:Nat):List Act:=(List.range k).flatMap (mlLoop u)
def mlNext(kept u i:Nat):List Act:=[⟨22,0,0,u,0⟩,⟨19,3,0,0,0⟩,⟨16,3,0,0,0⟩]++(if i+1=kept then[⟨4,4,3,0,0⟩]else[])
def mlHead(n u:Nat):List Act:=mlMid u n++[⟨3,0,0,0,0⟩,⟨3,1,0,0,0⟩,⟨24,0,0,0,0⟩,⟨18,0,0,0,0⟩]
def mlDue(n kept u k:Nat):List Act:=mlHead n u++(List.range k).flatMap (mlNext kept u)
def mlTail:List Act:=[⟨18,0,0,0,0⟩,⟨24,0,0,0,0⟩,⟨21,0,0,0,0⟩,⟨6,5,4,0,0⟩,⟨6,6,5,0,0⟩,⟨15,6,0,0,0⟩]
def mlL(n kept u:Nat):List Act:=mlDue n kept u (n+1)++mlTail
theorem mlMid_succ(u k:Nat):mlMid u (k+1)=mlMid u k++mlLoop u k:=by
 unfold mlMid
 rw[List.range_succ,List.flatMap_append]
 simp
theorem mlMid_len(u k:Nat):(mlMid u k).length=7*k:=by
 induction k with
 |zero=>rfl
 |succ k ih=>rw[mlMid_succ,List.length_append,ih];simp[mlLoop];omega
theorem mlDue_succ(n kept u k:Nat):mlDue n kept u (k+1)=mlDue n kept u k++mlNext kept u k:=by
 unfold mlDue
 rw[List.range_succ,List.flatMap_append]
 simp
theorem mlDue_len(n kept u k:Nat):(mlDue n kept u k).length≤7*n+4+4*k:=by
 induction k with
 |zero=>unfold mlDue mlHead;simp[mlMid_len]
 |succ k ih=>
  rw[mlDue_succ,List.length_append]
  unfold mlNext
  split<;>simp<;>omega
def oddN(j:Nat)(l:Int):Nd:=⟨(j:Int)+1,0,l,[⟨W0,Wc (2*(j:Int)+2)⟩]⟩
def evnN(j:Nat):Nd:=⟨0,0,0,[⟨W0,⟨1,100+((j:Int)+1),0⟩⟩]⟩
def laN(l:Nat→Int)(i:Nat):Nd:=if i%2=0 then oddN (i/2) (l (i/2))else evnN (i/2)
def laT(l:Nat→Int)(m:Nat):List Nd:=(List.range m).map (laN l)
def laI(l:Nat→Int)(n:Nat)(r:List Word):Ideal:=⟨2000,r,laT l (2*n)⟩
theorem laT_len(l:Nat→Int)(m:Nat):(laT l m).length=m:=by simp[laT]
theorem laT_at{l:Nat→Int}{m i:Nat}(h:i<m):(laT l m)[i]?=some (laN l i):=by
 unfold laT
 rw[List.getElem?_map,List.getElem?_range h];rfl
theorem laN_odd(l:Nat→Int)(j:Nat):laN l (2*j)=oddN j (l j):=by
 unfold laN
 rw[if_pos (by omega),show 2*j/2=j by omega]
theorem laN_evn(l:Nat→Int)(j:Nat):laN l (2*j+1)=evnN j:=by
 unfold laN
 rw[if_neg (by omega),show(2*j+1)/2=j by omega]
theorem laT_two(l:Nat→Int)(n:Nat):laT l (2*(n+1))=laT l (2*n)++[oddN n (l n),evnN n]:=by
 unfold laT
 rw[show 2*(n+1)=2*n+1+1 by omega,List.range_succ,List.range_succ]
 simp[laN_odd,laN_evn]
theorem la_nd{l:Nat→Int}{n:Nat}{r:List Word}{b:Int}{x:Nd}(h:ndI (laI l n r) b=some x):(∃j:Nat,j<n∧b=2*(j:Int)+1∧x=oddN j (l j))∨(∃j:Nat,j<n∧b=2*(j:Int)+2∧x=evnN j):=by
 have hl:=ndI_lt h
 have hl2:(laI l n r).things.length=2*n:=laT_len _ _
 unfold ndI laI at h
 rw[if_pos hl.1,laT_at (by omega)]at h
 cases h
 by_cases c:(b-1).toNat%2=0
 ·left
  refine⟨(b-1).toNat/2,by omega,by omega,?_⟩
  unfold laN;rw[if_pos c]
 ·right
  refine⟨(b-1).toNat/2,by omega,by omega,?_⟩
  unfold laN;rw[if_neg c]
theorem la_odd{l:Nat→Int}{n:Nat}{r:List Word}{j:Nat}(h:j<n):ndI (laI l n r) (2*(j:Int)+1)=some (oddN j (l j)):=by
 unfold ndI laI
 rw[if_pos (by omega),show(2*(j:Int)+1-1).toNat=2*j by omega,laT_at (by omega),laN_odd]
theorem la_evn{l:Nat→Int}{n:Nat}{r:List Word}{j:Nat}(h:j<n):ndI (laI l n r) (2*(j:Int)+2)=some (evnN j):=by
 unfold ndI laI
 rw[if_pos (by omega),show(2*(j:Int)+2-1).toNat=2*j+1 by omega,laT_at (by omega),laN_evn]
theorem sum_const(c:Int):∀l:List Nd,(∀n,n∈l→1+(n.pairs.length:Int)=c)→(l.map fun n=>1+(n.pairs.length:Int)).sum=c*l.length
 |[],_=>by simp
 |a::r,h=>by
  have ih:=sum_const c r (fun n hn=>h n (by simp[hn]))
  rw[List.map_cons,List.sum_cons,ih,h a (by simp),List.length_cons]
  have:c*((r.length+1:Nat):Int)=c*r.length+c:=by rw[Int.natCast_add,Int.mul_add];simp
  omega
theorem la_sum(l:Nat→Int)(m:Nat):((laT l m).map fun n=>1+(n.pairs.length:Int)).sum=2*m:=by
 rw[sum_const 2 _ (fun n hn=>by
  obtain⟨i,_,rfl⟩:=List.mem_map.1 hn
  unfold laN
  split<;>rfl),laT_len]
def laS(n:Nat):Ideal:=laI (fun _=>1) n (if n=0 then List.replicate 16 W0 else rg (Wc (2*(n:Int)-1)) (Wc (2*(n:Int))) ⟨1,100+(n:Int),0⟩ W0 W0 W0 W0)
theorem app_nd0{T:List Nd}{R:List Nd}{r:List Word}{q:Int}{x:Nd}{m:Nat}(hm:T.length=m):ndI ⟨q,r,T++x::R⟩ ((m:Int)+1)=some x:=by
 unfold ndI
 rw[if_pos (by omega),show((m:Int)+1-1).toNat=T.length by omega,List.getElem?_append_right (Nat.le_refl _),Nat.sub_self];rfl
theorem app_nd1{T:List Nd}{r:List Word}{q:Int}{x y:Nd}{m:Nat}(hm:T.length=m):ndI ⟨q,r,T++[x,y]⟩ ((m:Int)+2)=some y:=by
 unfold ndI
 rw[if_pos (by omega),show((m:Int)+2-1).toNat=T.length+1 by omega,List.getElem?_append_right (by omega),show T.length+1-T.length=1 by omega];rfl
theorem app_up0{T:List Nd}{R:List Nd}{r:List Word}{q:Int}{x x':Nd}{m:Nat}(hm:T.length=m):Ideal.upd ⟨q,r,T++x::R⟩ ((m:Int)+1) x'=⟨q,r,T++x'::R⟩:=by
 unfold Ideal.upd
 simp only
 rw[show((m:Int)+1-1).toNat=T.length by omega,List.set_append_right _ _ (Nat.le_refl _),Nat.sub_self];rfl
theorem app_up1{T:List Nd}{r:List Word}{q:Int}{x y y':Nd}{m:Nat}(hm:T.length=m):Ideal.upd ⟨q,r,T++[x,y]⟩ ((m:Int)+2) y'=⟨q,r,T++[x,y']⟩:=by
 unfold Ideal.upd
 simp only
 rw[show((m:Int)+2-1).toNat=T.length+1 by omega,List.set_append_right _ _ (by omega),show T.length+1-T.length=1 by omega];rfl
theorem tot_app{T R:List Nd}{r:List Word}{q:Int}:totI ⟨q,r,T++R⟩=(T.map fun n=>1+(n.pairs.length:Int)).sum+(R.map fun n=>1+(n.pairs.length:Int)).sum:=by
 unfold totI
 simp only[List.map_append,List.sum_append]
theorem la_rep(w:Word):∀n:Nat,(if n=0 then List.replicate 16 W0 else rg (Wc (2*(n:Int)-1)) (Wc (2*(n:Int))) ⟨1,100+(n:Int),0⟩ W0 W0 W0 W0)=rg (if n=0 then W0 else Wc (2*(n:Int)-1)) (if n=0 then W0 else Wc (2*(n:Int))) (if n=0 then W0 else⟨1,100+(n:Int),0⟩) W0 W0 W0 W0:=fun n=>by
 by_cases c:n=0
 ·simp only[if_pos c];rfl
 ·simp only[if_neg c]
theorem la_loop{n u:Nat}(hn:n<40)(hu:u≤20):runI (laS n) (mlLoop u n)=laS (n+1):=by
 unfold laS laI
 rw[la_rep W0 n,if_neg (by omega:¬n+1=0),laT_two]
 have hT:=laT_len (fun _=>1) (2*n)
 have hS:=la_sum (fun _=>1) (2*n)
 generalize laT (fun _=>1) (2*n)=T at*
 generalize(if n=0 then W0 else Wc (2*(n:Int)-1))=r0
 generalize(if n=0 then W0 else Wc (2*(n:Int)))=r1
 generalize(if n=0 then W0 else(⟨1,100+(n:Int),0⟩:Word))=r2
 have e0:(2*((n+1:Nat):Int)-1)=((2*n:Nat):Int)+1:=by omega
 have e1:(2*((n+1:Nat):Int))=((2*n:Nat):Int)+2:=by omega
 have e2:(100:Int)+((n+1:Nat):Int)=100+((n:Int)+1):=by omega
 have e3:(2*(n:Int)+2)=((2*n:Nat):Int)+2:=by omega
 rw[e0,e1,e2]
 unfold mlLoop
 show runI (actI ⟨2000,rg r0 r1 r2 W0 W0 W0 W0,T⟩ _).s _=_
 rw[i_new (by simp[ActP,aMost,bMost,cMost];omega) (by unfold totI;simp only;rw[hS];omega)]
 have n1:(Ideal.push ⟨2000,rg r0 r1 r2 W0 W0 W0 W0,T⟩ ⟨(n:Int)+1,0,0,List.replicate (1:Int).toNat Pair.no⟩).setR 0 ⟨2,0,(T.length:Int)+1⟩=⟨2000,rg (Wc (((2*n:Nat):Int)+1)) r1 r2 W0 W0 W0 W0,T++[⟨(n:Int)+1,0,0,[Pair.no]⟩]⟩:=by rw[hT];rfl
 simp only
 rw[n1]
 show runI (actI _ _).s _=_
 rw[i_last (b:=((2*n:Nat):Int)+1) (by omega) (by omega) rfl (app_nd0 hT)]
 simp only
 rw[app_up0 hT]
 show runI (actI _ _).s _=_
 rw[i_new (by simp[ActP,aMost,bMost,cMost]) (by rw[tot_app,hS];simp;omega)]
 have n2:∀x:Nd,(Ideal.push ⟨2000,rg (Wc (((2*n:Nat):Int)+1)) r1 r2 W0 W0 W0 W0,T++[x]⟩ ⟨0,0,0,List.replicate (1:Int).toNat Pair.no⟩).setR 1 ⟨2,0,((T++[x]).length:Int)+1⟩=⟨2000,rg (Wc (((2*n:Nat):Int)+1)) (Wc (((2*n:Nat):Int)+2)) r2 W0 W0 W0 W0,T++[x,⟨0,0,0,[Pair.no]⟩]⟩:=fun x=>by
  have:((T++[x]).length:Int)+1=((2*n:Nat):Int)+2:=by rw[List.length_append,hT];simp;omega
  rw[this]
  unfold Ideal.push Ideal.setR
  simp only[List.append_assoc]
  rfl
 simp only
 rw[n2]
 show runI (actI _ _).s _=_
 rw[i_setval0 (b:=((2*n:Nat):Int)+1) (p:=Pair.no) (by omega) (by omega) rfl (app_nd0 hT) rfl]
 simp only
 rw[app_up0 hT]
 show runI (actI _ _).s _=_
 rw[i_num (by omega)]
 simp only
 show runI (actI (Ideal.setR _ _ _) _).s _=_
 have n3:∀(a b:Word) (l:List Nd) (w:Word),(⟨2000,rg a b r2 W0 W0 W0 W0,l⟩:Ideal).setR 2 w=⟨2000,rg a b w W0 W0 W0 W0,l⟩:=fun _ _ _ _=>rfl
 rw[n3]
 rw[i_setval0 (b:=((2*n:Nat):Int)+2) (p:=Pair.no) (by omega) (by omega) rfl (app_nd1 hT) rfl]
 simp only
 rw[app_up1 hT]
 show runI (actI _ _).s _=_
 rw[i_step (by simp[ActP,aMost,bMost,cMost];omega)]
 unfold oddN evnN
 rw[e3]
 rfl
theorem la_mid{n u:Nat}(hn:n≤40)(hu:u≤20):∀k,k≤n→runI ⟨2000,List.replicate 16 W0,[]⟩ (mlMid u k)=laS k
 |0,_=>rfl
 |k+1,hk=>by rw[mlMid_succ,runI_app,la_mid hn hu k (by omega),la_loop (by omega) hu]
abbrev laR(w2 w3 w4:Word):List Word:=rg W0 W0 w2 w3 w4 W0 W0
theorem la_free{l:Nat→Int}{n:Nat}{w:Word}(hw:w.kind≠2)(hl:∀j,l j≠2){b:Int}:¬HeldI (laI l n (laR w W0 W0)) b:=fun h=>by
 induction h with
 | @reg v b h1 h2=>
   have:v=w∨v=W0:=by
    have hr:(laI l n (laR w W0 W0)).regs=laR w W0 W0:=rfl
    rw[hr]at h1
    simp only[laR,rg,List.mem_cons,List.not_mem_nil,or_false]at h1
    rcases h1 with h|h|h|h|h|h|h|h|h|h|h|h|h|h|h|h<;>simp[h]
   rcases this with rfl|rfl
   ·exact hw h2.1
   ·exact absurd h2.1 (by simp)
 |due h1 h2=>
  rcases la_nd h1 with⟨j,_,_,rfl⟩|⟨j,_,_,rfl⟩
  ·exact hl j h2
  ·exact absurd h2 (by simp[evnN])
 |key _ _ _ _ _ ih=>exact ih
 |val _ _ _ _ _ _ ih _=>exact ih
theorem la_settle{n:Nat}{w:Word}(hw:w.kind≠2):settleI (laI (fun _=>1) n (laR w W0 W0))=laI (fun _=>2) n (laR w W0 W0):=by
 have nh:∀b,¬HeldI (laI (fun _=>1) n (laR w W0 W0)) b:=fun b=>la_free hw (fun _=>by decide)
 unfold settleI
 have e:(laI (fun _=>1) n (laR w W0 W0)).things.mapIdx (fun i x=>stI (laI (fun _=>1) n (laR w W0 W0)) ((i:Int)+1) x)=laT (fun _=>2) (2*n):=by
  refine List.ext_getElem? fun i=>?_
  rw[List.getElem?_mapIdx]
  show Option.map _ ((laT (fun _=>1) (2*n))[i]?)=_
  by_cases hi:i<2*n
  ·rw[laT_at hi,laT_at hi]
   simp only[Option.map_some,Option.some.injEq]
   unfold stI
   rw[if_neg (nh _)]
   unfold laN
   by_cases c:i%2=0
   ·rw[if_pos c,if_pos c,if_pos (by rfl)];rfl
   ·rw[if_neg c,if_neg c,if_neg (by simp[evnN])]
  ·rw[List.getElem?_eq_none (by rw[laT_len];omega),List.getElem?_eq_none (by rw[laT_len];omega)];rfl
 rw[e];rfl
theorem odd_count(n:Nat):((List.range (2*n)).filter fun i=>decide (i%2=0)).length=n:=by
 induction n with
 |zero=>rfl
 |succ n ih=>
  rw[show 2*(n+1)=2*n+1+1 by omega,List.range_succ,List.range_succ,List.filter_append,List.filter_append,List.length_append,List.length_append,ih]
  have a:decide (2*n%2=0)=true:=by simp
  have b:decide ((2*n+1)%2=0)=false:=by simp<;>omega
  simp[a,b]
theorem la_dues{n:Nat}{w:Word}(hw:w.kind≠2):duesI (laI (fun _=>1) n (laR w W0 W0))=n:=by
 have nh:∀b,¬HeldI (laI (fun _=>1) n (laR w W0 W0)) b:=fun b=>la_free hw (fun _=>by decide)
 unfold duesI posI
 rw[List.length_map]
 have hl:(laI (fun _=>1) n (laR w W0 W0)).things.length=2*n:=laT_len _ _
 rw[hl,List.filter_congr (q:=fun i=>decide (i%2=0)) (fun i hi=>?_),odd_count]
 have hi:=List.mem_range.1 hi
 rw[decide_eq_decide]
 have hn:ndI (laI (fun _=>1) n (laR w W0 W0)) ((i:Int)+1)=some (laN (fun _=>1) i):=by
  unfold ndI laI
  rw[if_pos (by omega),show((i:Int)+1-1).toNat=i by omega,laT_at hi]
 unfold WantsI
 constructor
 ·rintro⟨_,x,h1,h2⟩
  rw[hn]at h1
  cases h1
  by_cases c:i%2=0
  ·exact c
  ·unfold laN at h2;rw[if_neg c]at h2;exact absurd h2 (by simp[evnN])
 ·intro c
  refine⟨nh _,_,hn,?_⟩
  unfold laN;rw[if_pos c];rfl
def lst(j:Nat):Nat→Int:=fun t=>if t<j then 3 else 2
theorem la_first{n j:Nat}{r:List Word}(h:j<n):dueI (laI (lst j) n r)=some (2*j):=by
 unfold dueI
 rw[List.findIdx?_eq_some_iff_getElem]
 have hl:(laI (lst j) n r).things.length=2*n:=laT_len _ _
 have at_:∀i (hi:i<(laI (lst j) n r).things.length),(laI (lst j) n r).things[i]=laN (lst j) i:=fun i hi=>by
  have:=laT_at (l:=lst j) (m:=2*n) (i:=i) (by omega)
  have h2:=List.getElem?_eq_getElem hi
  change (laI (lst j) n r).things[i]?=_ at this
  rw[h2]at this
  exact Option.some.inj this
 refine⟨by omega,?_,fun i hi=>?_⟩
 ·rw[at_,laN_odd];simp[oddN,lst]
 ·rw[at_]
  unfold laN
  split
  ·have:i/2<j:=by omega
   simp[oddN,lst,this]
  ·simp[evnN]
theorem la_none{n:Nat}{r:List Word}:dueI (laI (lst n) n r)=none:=by
 unfold dueI
 rw[List.findIdx?_eq_none_iff]
 intro x hx
 obtain⟨i,hi,rfl⟩:=List.mem_map.1 hx
 have hi:=List.mem_range.1 hi
 unfold laN
 split
 ·have:i/2<n:=by omega
  simp[oddN,lst,this]
 ·simp[evnN]
theorem la_told{n j:Nat}{r:List Word}(h:j<n):(laI (lst j) n r).upd (2*(j:Int)+1) {oddN j (lst j j)with last:=3}=laI (lst (j+1)) n r:=by
 unfold Ideal.upd laI
 simp only[Ideal.mk.injEq,true_and]
 rw[show(2*(j:Int)+1-1).toNat=2*j by omega]
 refine List.ext_getElem? fun i=>?_
 rw[List.getElem?_set,laT_len]
 by_cases c:2*j=i
 ·subst c
  rw[if_pos rfl,if_pos (by omega),laT_at (by omega),laN_odd]
  simp[oddN,lst]
 ·rw[if_neg c]
  by_cases hi:i<2*n
  ·rw[laT_at hi,laT_at hi]
   unfold laN
   split
   ·have e:lst j (i/2)=lst (j+1) (i/2):=by
     unfold lst
     by_cases d:i/2<j
     ·rw[if_pos d,if_pos (by omega)]
     ·rw[if_neg d,if_neg (by omega)]
    rw[e]
   ·rfl
  ·rw[List.getElem?_eq_none (by rw[laT_len];omega),List.getElem?_eq_none (by rw[laT_len];omega)]
noncomputable def duS(n kept j:Nat)(w:Word):Ideal:=laI (lst j) n (laR w (if j=0 then W0 else if j=n+1 then W0 else Wc (2*(j:Int)-1)) (if kept≤j then Wc (2*(kept:Int)-1)else W0))
theorem lst_n(n:Nat):laT (lst (n+1)) (2*n)=laT (lst n) (2*n):=by
 refine List.ext_getElem? fun i=>?_
 by_cases hi:i<2*n
 ·rw[laT_at hi,laT_at hi]
  unfold laN
  split
  ·have e:lst (n+1) (i/2)=lst n (i/2):=by
    unfold lst
    rw[if_pos (by omega),if_pos (by omega)]
   rw[e]
  ·rfl
 ·rw[List.getElem?_eq_none (by rw[laT_len];omega),List.getElem?_eq_none (by rw[laT_len];omega)]
def duA(n kept j:Nat):List (Int×Int):=[(0,0),(0,if j<n then 1 else 0),(if j<n then 0 else 2,if j<n then(j:Int)+1 else 0)]++(if j+1=kept then[(0,0)]else[])
theorem la_ask{n kept u j:Nat}{w:Word}(hk:1≤kept∧kept≤n)(hu:u≤20)(hj:j≤n):runI (duS n kept j w) (mlNext kept u j)=duS n kept (j+1) w∧ansI (duS n kept j w) (mlNext kept u j)=duA n kept j:=by
 have pu:ActP ⟨22,0,0,u,0⟩:=by simp[ActP,aMost,bMost,cMost];omega
 have s3:∀(l:Nat→Int) (m:Nat) (a b c v:Word),(laI l m (laR a b c)).setR 3 v=laI l m (laR a v c):=fun _ _ _ _ _ _=>rfl
 have s4:∀(l:Nat→Int) (m:Nat) (a b c v:Word),(laI l m (laR a b c)).setR 4 v=laI l m (laR a b v):=fun _ _ _ _ _ _=>rfl
 unfold mlNext duA duS
 generalize(if j=0 then W0 else if j=n+1 then W0 else Wc (2*(j:Int)-1))=w3
 by_cases c:j<n
 ·have d1:∀r,actI (laI (lst j) n r) ⟨19,3,0,0,0⟩=⟨(laI (lst (j+1)) n r).setR 3 (Wc (2*(j:Int)+1)),0,1⟩:=fun r=>by
   have hn:=la_odd (l:=lst j) (r:=r) c
   have e:2*(j:Int)+1=((2*j:Nat):Int)+1:=by omega
   rw[e]at hn⊢
   rw[i_due (by omega) (la_first c) hn]
   rw[←e,la_told c]
  have k1:∀a b,actI (laI (lst (j+1)) n (laR a (Wc (2*(j:Int)+1)) b)) ⟨16,3,0,0,0⟩=⟨laI (lst (j+1)) n (laR a (Wc (2*(j:Int)+1)) b),0,(j:Int)+1⟩:=fun a b=>i_kind (by omega) rfl (la_odd c)
  have e1:2*((j+1:Nat):Int)-1=2*(j:Int)+1:=by omega
  rw[if_pos c,if_pos c,if_pos c,if_neg (by omega:¬j+1=0),if_neg (by omega:¬j+1=n+1),e1]
  by_cases d:j+1=kept
  ·rw[if_pos d,if_pos d,if_neg (by omega:¬kept≤j),if_pos (by omega:kept≤j+1),show 2*(kept:Int)-1=2*(j:Int)+1 by omega]
   simp only[List.cons_append,List.nil_append,runI,ansI,i_step pu,d1,s3,k1,i_copy (r:=4) (q:=3) (by omega) (by omega)]
   exact⟨by first|rfl|trivial,by first|rfl|trivial⟩
  ·rw[if_neg d,if_neg d]
   have e2:(if kept≤j then Wc (2*(kept:Int)-1)else W0)=(if kept≤j+1 then Wc (2*(kept:Int)-1)else W0):=by
    by_cases f:kept≤j
    ·rw[if_pos f,if_pos (by omega)]
    ·rw[if_neg f,if_neg (by omega)]
   rw[←e2]
   simp only[List.append_nil,runI,ansI,i_step pu,d1,s3,k1]
   exact⟨by first|rfl|trivial,by first|rfl|trivial⟩
 ·have hjn:j=n:=by omega
  subst hjn
  have d1:∀r,actI (laI (lst j) j r) ⟨19,3,0,0,0⟩=⟨(laI (lst j) j r).setR 3 W0,0,0⟩:=fun r=>i_due0 (by omega) la_none
  have k1:∀a b,actI (laI (lst j) j (laR a W0 b)) ⟨16,3,0,0,0⟩=⟨laI (lst j) j (laR a W0 b),2,0⟩:=fun a b=>i_kind0 (by omega) rfl
  rw[if_neg c,if_neg c,if_neg c,if_neg (by omega:¬j+1=0),if_pos rfl,if_neg (by omega:¬j+1=kept),if_neg (by omega:¬j+1=kept),if_pos (by omega:kept≤j),if_pos (by omega:kept≤j+1)]
  simp only[List.append_nil,runI,ansI,i_step pu,d1,s3,k1]
  refine⟨?_,trivial⟩
  unfold laI
  rw[lst_n]
theorem laI_keep{n:Nat}{r:List Word}(l:Nat→Int)(hl:∀j,l j≠1):settleI (laI l n r)=laI l n r∧duesI (laI l n r)=0:=by
 constructor
 ·unfold settleI
  have e:(laI l n r).things.mapIdx (fun i x=>stI (laI l n r) ((i:Int)+1) x)=laT l (2*n):=by
   refine List.ext_getElem? fun i=>?_
   rw[List.getElem?_mapIdx]
   show Option.map _ ((laT l (2*n))[i]?)=_
   by_cases hi:i<2*n
   ·rw[laT_at hi]
    simp only[Option.map_some,Option.some.injEq]
    have hw:(laN l i).weak=0:=by unfold laN;split<;>rfl
    have hla:(laN l i).last≠1:=by
     unfold laN
     split
     ·exact hl _
     ·simp[evnN]
    unfold stI
    rw[if_neg hla,List.filter_eq_self.2 (fun p _=>?_)]
    ·split<;>rfl
    ·have:¬GoneI (laI l n r) (laN l i) p:=by
      unfold GoneI
      rw[hw]
      rintro(⟨h,_⟩|⟨h,_⟩)
      ·exact h keyI0
      ·exact h valI0
     simpa using this
   ·rw[List.getElem?_eq_none (by rw[laT_len];omega)];rfl
  rw[e];rfl
 ·unfold duesI
  have:posI (laI l n r) (WantsI (laI l n r))=[]:=by
   rw[List.eq_nil_iff_forall_not_mem]
   intro x hx
   obtain⟨m,h1,⟨_,y,h2,h3⟩,_⟩:=(posI_mem x).1 hx
   rcases la_nd h2 with⟨j,_,_,rfl⟩|⟨j,_,_,rfl⟩
   ·exact hl j h3
   ·exact absurd h3 (by simp[evnN])
  rw[this];rfl
theorem la_reach{n k:Nat}{w:Word}(hw:w.kind≠2)(hk:k<n){b:Int}:ReachI (laI (lst n) n (laR w W0 (Wc (2*(k:Int)+1)))) b↔b=2*(k:Int)+1∨b=2*(k:Int)+2:=by
 constructor
 ·intro h
  induction h with
  | @reg v b h1 h2=>
    have:v=w∨v=W0∨v=Wc (2*(k:Int)+1):=by
     have hr:(laI (lst n) n (laR w W0 (Wc (2*(k:Int)+1)))).regs=laR w W0 (Wc (2*(k:Int)+1)):=rfl
     rw[hr]at h1
     simp only[laR,rg,List.mem_cons,List.not_mem_nil,or_false]at h1
     rcases h1 with h|h|h|h|h|h|h|h|h|h|h|h|h|h|h|h<;>simp[h]
    rcases this with rfl|rfl|rfl
    ·exact absurd h2.1 hw
    ·exact absurd h2.1 (by simp)
    ·exact .inl h2.2.symm
  |root h1 h2=>
   rcases la_nd h1 with⟨j,hj,_,rfl⟩|⟨j,_,_,rfl⟩
   ·simp[oddN,lst,hj]at h2
   ·simp[evnN]at h2
  |pair _ h2 h3 h4 h5 ih=>
   rcases la_nd h2 with⟨j,hj,e,rfl⟩|⟨j,hj,e,rfl⟩
   ·simp only[oddN,List.mem_singleton]at h3
    subst h3
    rcases h4 with rfl|rfl
    ·exact absurd h5.1 (by simp)
    ·have:=h5.2
     simp only at this
     right;omega
   ·simp only[evnN,List.mem_singleton]at h3
    subst h3
    rcases h4 with rfl|rfl<;>exact absurd h5.1 (by simp)
 ·have h1:ReachI (laI (lst n) n (laR w W0 (Wc (2*(k:Int)+1)))) (2*(k:Int)+1):=.reg (w:=Wc (2*(k:Int)+1)) (List.mem_of_getElem? (i:=4) rfl) ⟨rfl,rfl⟩
  rintro(rfl|rfl)
  ·exact h1
  ·exact .pair h1 (la_odd hk) (List.mem_singleton.2 rfl) (.inr rfl) ⟨rfl,rfl⟩
theorem la_live{n k:Nat}{w:Word}(hw:w.kind≠2)(hk:k<n):liveI (laI (lst n) n (laR w W0 (Wc (2*(k:Int)+1))))=4:=by
 unfold liveI
 rw[posI_eq (u:=[(2*(k:Int)+1,2),(2*(k:Int)+2,2)]) (by simp) (fun b m=>?_) (fun x hx=>?_)]
 ·rfl
 ·rw[la_reach hw hk]
  constructor
  ·rintro⟨a,rfl|rfl⟩
   ·rw[la_odd hk]at a
    cases a
    exact⟨by simp[oddN],la_odd hk⟩
   ·rw[la_evn hk]at a
    cases a
    exact⟨by simp[evnN],la_evn hk⟩
  ·rintro⟨a,b⟩
   refine⟨b,?_⟩
   simp only[List.mem_cons,Prod.mk.injEq,List.not_mem_nil,or_false]at a
   rcases a with⟨a,_⟩|⟨a,_⟩
   ·exact .inl a
   ·exact .inr a
 ·simp only[List.mem_cons,List.not_mem_nil,or_false]at hx
  rcases hx with rfl|rfl
  ·exact⟨_,la_odd hk,rfl⟩
  ·exact⟨_,la_evn hk,rfl⟩
theorem nums_next{op:Int}{n kept u j:Nat}:nums op (mlNext kept u j) (duA n kept j)=if op=22 then[0]++(if j+1=kept∧op=4 then[0]else[])else if op=19 then[if j<n then 1 else 0]else if op=16 then[if j<n then(j:Int)+1 else 0]else if j+1=kept∧op=4 then[0]else[]:=by
 unfold mlNext duA
 by_cases a:op=22
 ·subst a;by_cases d:j+1=kept<;>simp[nums,d]
 by_cases b:op=19
 ·subst b;by_cases d:j+1=kept<;>simp[nums,d]
 by_cases c:op=16
 ·subst c;by_cases d:j+1=kept<;>simp[nums,d]
 rw[if_neg a,if_neg b,if_neg c]
 have a':¬(22:Int)=op:=fun e=>a e.symm
 have b':¬(19:Int)=op:=fun e=>b e.symm
 have c':¬(16:Int)=op:=fun e=>c e.symm
 by_cases d:j+1=kept
 ·by_cases e:op=4
  ·subst e;simp[nums,d]
  ·have e':¬(4:Int)=op:=fun h=>e h.symm
   simp[nums,d,a',b',c',e,e']
 ·simp[nums,d,a',b',c']
theorem la_all{n kept u:Nat}{w:Word}(hk:1≤kept∧kept≤n)(hu:u≤20):∀k,k≤n+1→runI (duS n kept 0 w) ((List.range k).flatMap (mlNext kept u))=duS n kept k w∧
 nums 16 ((List.range k).flatMap (mlNext kept u)) (ansI (duS n kept 0 w) ((List.range k).flatMap (mlNext kept u)))=(List.range k).map (fun j:Nat=>if j<n then(j:Int)+1 else 0)∧
 nums 19 ((List.range k).flatMap (mlNext kept u)) (ansI (duS n kept 0 w) ((List.range k).flatMap (mlNext kept u)))=(List.range k).map (fun j:Nat=>if j<n then(1:Int)else 0)
 |0,_=>⟨rfl,rfl,rfl⟩
 |k+1,h=>by
  obtain⟨a,b,c⟩:=la_all (w:=w) hk hu k (by omega)
  obtain⟨d,e⟩:=la_ask (w:=w) (j:=k) hk hu (by omega)
  rw[List.range_succ,List.flatMap_append,List.map_append,List.map_append]
  simp only[List.flatMap_cons,List.flatMap_nil,List.append_nil,List.map_cons,List.map_nil]
  rw[runI_app,nums_run,nums_run,a,d,b,c,e,nums_next,nums_next]
  simp
theorem la_no{n kept u k:Nat}{op:Int}(ho:op=15∨op=18∨op=21){x:List (Int×Int)}:nums op ((List.range k).flatMap (mlNext kept u)) x=[]:=nums_no op _ _ fun b hb=>by
 obtain⟨j,_,hb⟩:=List.mem_flatMap.1 hb
 unfold mlNext at hb
 rcases List.mem_append.1 hb with hb|hb
 ·simp only[List.mem_cons,List.not_mem_nil,or_false]at hb
  rcases hb with rfl|rfl|rfl<;>simp only<;>omega
 ·split at hb
  ·simp only[List.mem_cons,List.not_mem_nil,or_false]at hb
   subst hb;simp only;omega
  ·cases hb
theorem lasts_ok{n kept u:Nat}(hn:1≤n∧n≤40)(hk:1≤kept∧kept≤n)(hu:u≤20):
 nums 16 (mlL n kept u) (ansI ⟨2000,List.replicate 16 W0,[]⟩ (mlL n kept u))=(List.range (n+1)).map (fun j:Nat=>if j<n then(j:Int)+1 else 0)∧
 nums 19 (mlL n kept u) (ansI ⟨2000,List.replicate 16 W0,[]⟩ (mlL n kept u))=(List.range (n+1)).map (fun j:Nat=>if j<n then(1:Int)else 0)∧
 nums 18 (mlL n kept u) (ansI ⟨2000,List.replicate 16 W0,[]⟩ (mlL n kept u))=[(n:Int),0]∧
 nums 21 (mlL n kept u) (ansI ⟨2000,List.replicate 16 W0,[]⟩ (mlL n kept u))=[4]∧
 nums 15 (mlL n kept u) (ansI ⟨2000,List.replicate 16 W0,[]⟩ (mlL n kept u))=[100+(kept:Int)]:=by
 have mid:∀op,op=15∨op=16∨op=18∨op=19∨op=21→∀x,nums op (mlMid u n) x=[]:=fun op ho x=>nums_no op _ _ fun b hb=>by
  unfold mlMid at hb
  obtain⟨k,_,hb⟩:=List.mem_flatMap.1 hb
  unfold mlLoop at hb
  simp only[List.mem_cons,List.not_mem_nil,or_false]at hb
  rcases hb with rfl|rfl|rfl|rfl|rfl|rfl|rfl<;>simp only<;>omega
 have hS:runI ⟨2000,List.replicate 16 W0,[]⟩ (mlMid u n)=laS n:=la_mid hn.2 hu n (Nat.le_refl _)
 have eS:((laS n).setR 0 W0).setR 1 W0=laI (fun _=>1) n (laR ⟨1,100+(n:Int),0⟩ W0 W0):=by
  unfold laS
  rw[if_neg (by omega)]
  rfl
 have hw:(⟨1,100+(n:Int),0⟩:Word).kind≠2:=by show(1:Int)≠2;omega
 have e0:lst 0=fun _=>2:=by funext t;unfold lst;rw[if_neg (by omega)]
 have hD:laI (fun _=>2) n (laR ⟨1,100+(n:Int),0⟩ W0 W0)=duS n kept 0 ⟨1,100+(n:Int),0⟩:=by
  unfold duS
  rw[if_pos rfl,if_neg (by omega),e0]
 have hrun:runI ⟨2000,List.replicate 16 W0,[]⟩ (mlHead n u)=duS n kept 0 ⟨1,100+(n:Int),0⟩:=by
  unfold mlHead
  rw[runI_app,hS]
  simp only[runI,i_nil (r:=0) (by omega),i_nil (r:=1) (by omega),eS,i_round,i_settle,la_settle hw,hD]
 have hans:ansI (laS n) [⟨3,0,0,0,0⟩,⟨3,1,0,0,0⟩,⟨24,0,0,0,0⟩,⟨18,0,0,0,0⟩]=[(0,0),(0,0),(0,0),(0,(n:Int))]:=by
  simp only[ansI,i_nil (r:=0) (by omega),i_nil (r:=1) (by omega),eS,i_round,i_settle,la_dues hw]
 have hhead:∀op,op=15∨op=16∨op=18∨op=19∨op=21→nums op (mlHead n u) (ansI ⟨2000,List.replicate 16 W0,[]⟩ (mlHead n u))=if op=18 then[(n:Int)]else[]:=fun op ho=>by
  unfold mlHead
  rw[nums_run,mid op ho,hS,hans]
  rcases ho with rfl|rfl|rfl|rfl|rfl<;>simp[nums]
 obtain⟨g1,g2,g3⟩:=la_all (w:=⟨1,100+(n:Int),0⟩) hk hu (n+1) (Nat.le_refl _)
 obtain⟨k,rfl⟩:∃k,kept=k+1:=⟨kept-1,by omega⟩
 have hE:duS n (k+1) (n+1) ⟨1,100+(n:Int),0⟩=laI (lst n) n (laR ⟨1,100+(n:Int),0⟩ W0 (Wc (2*(k:Int)+1))):=by
  unfold duS laI
  rw[lst_n,if_neg (by omega),if_pos rfl,if_pos (by omega),show 2*((k+1:Nat):Int)-1=2*(k:Int)+1 by omega]
 obtain⟨t1,t2⟩:=laI_keep (n:=n) (r:=laR ⟨1,100+(n:Int),0⟩ W0 (Wc (2*(k:Int)+1))) (lst n) (fun j=>by unfold lst;split<;>decide)
 have v5:actI (laI (lst n) n (laR ⟨1,100+(n:Int),0⟩ W0 (Wc (2*(k:Int)+1)))) ⟨6,5,4,0,0⟩=⟨laI (lst n) n (rg W0 W0 ⟨1,100+(n:Int),0⟩ W0 (Wc (2*(k:Int)+1)) (Wc (2*(k:Int)+2)) W0),0,0⟩:=by
  rw[i_val (b:=2*(k:Int)+1) (p:=⟨W0,Wc (2*(k:Int)+2)⟩) (by omega) (by omega) rfl (la_odd (by omega)) rfl];rfl
 have v6:actI (laI (lst n) n (rg W0 W0 ⟨1,100+(n:Int),0⟩ W0 (Wc (2*(k:Int)+1)) (Wc (2*(k:Int)+2)) W0)) ⟨6,6,5,0,0⟩=⟨laI (lst n) n (rg W0 W0 ⟨1,100+(n:Int),0⟩ W0 (Wc (2*(k:Int)+1)) (Wc (2*(k:Int)+2)) ⟨1,100+((k:Int)+1),0⟩),0,0⟩:=by
  rw[i_val (b:=2*(k:Int)+2) (p:=⟨W0,⟨1,100+((k:Int)+1),0⟩⟩) (by omega) (by omega) rfl (la_evn (by omega)) rfl];rfl
 have v7:actI (laI (lst n) n (rg W0 W0 ⟨1,100+(n:Int),0⟩ W0 (Wc (2*(k:Int)+1)) (Wc (2*(k:Int)+2)) ⟨1,100+((k:Int)+1),0⟩)) ⟨15,6,0,0,0⟩=⟨laI (lst n) n (rg W0 W0 ⟨1,100+(n:Int),0⟩ W0 (Wc (2*(k:Int)+1)) (Wc (2*(k:Int)+2)) ⟨1,100+((k:Int)+1),0⟩),0,100+((k:Int)+1)⟩:=i_number (by omega) rfl
 have htail:ansI (duS n (k+1) (n+1) ⟨1,100+(n:Int),0⟩) mlTail=[(0,0),(0,0),(0,4),(0,0),(0,0),(0,100+((k:Int)+1))]:=by
  rw[hE]
  unfold mlTail
  simp only[ansI,i_settle,t1,t2,i_round,i_live,la_live hw (by omega:k<n),v5,v6,v7]
 have hdue:runI ⟨2000,List.replicate 16 W0,[]⟩ (mlDue n (k+1) u (n+1))=duS n (k+1) (n+1) ⟨1,100+(n:Int),0⟩:=by
  unfold mlDue
  rw[runI_app,hrun,g1]
 have hnd:∀op,nums op (mlDue n (k+1) u (n+1)) (ansI ⟨2000,List.replicate 16 W0,[]⟩ (mlDue n (k+1) u (n+1)))=nums op (mlHead n u) (ansI ⟨2000,List.replicate 16 W0,[]⟩ (mlHead n u))++nums op ((List.range (n+1)).flatMap (mlNext (k+1) u)) (ansI (duS n (k+1) 0 ⟨1,100+(n:Int),0⟩) ((List.range (n+1)).flatMap (mlNext (k+1) u))):=fun op=>by
  unfold mlDue
  rw[nums_run,hrun]
 unfold mlL
 simp only[nums_run,hdue,htail,hnd]
 rw[hhead 16 (by omega),hhead 19 (by omega),hhead 18 (by omega),hhead 21 (by omega),hhead 15 (by omega),g2,g3,la_no (n:=n) (by omega),la_no (n:=n) (by omega),la_no (n:=n) (by omega)]
 refine⟨?_,?_,?_,?_,?_⟩<;>simp[nums,mlTail]
end Go.Proofs.YtpleoapljeffiaaDoor.E
