/- A part of the proof. Conditions: none. -/
import Derived.Test.YtcjmodomfilagaaGreatKH16
set_option linter.unusedVariables false
set_option linter.unusedSimpArgs false
set_option maxHeartbeats 8000000
set_option maxRecDepth 100000
namespace Go.Proofs.YtcjmodomfilagaaGreat.E
open Go
open Classical
theorem shadeH_put{H:Heap}{i t k:Nat}{q:Pair}(hi:i<H.cells.length)(ht:t<H.cells.length):(H.putP i k q).shadeH t=(H.shadeH t).putP i k q:=by
 have gC:(H.putP i k q).getC t=if t=i then{H.getC i with pairs:=(H.getC i).pairs.set k q}else H.getC t:=by
  have:(H.putP i k q).getC t=if(t:Int).toNat=i then{H.getC i with pairs:=(H.getC i).pairs.set k q}else H.getC t:=by rw[getC_L,getC_L];exact getL_set hi
  rw[this,Int.toNat_natCast]
 have hcl:((H.putP i k q).getC t).color=(H.getC t).color:=by
  rw[gC];split
  ·rename_i e;rw[e]
  ·rfl
 unfold Heap.shadeH
 rw[hcl]
 have hm:Marking (H.putP i k q)↔Marking H:=Iff.rfl
 by_cases c:Marking H∧(H.getC t).color=0
 ·rw[if_pos c,if_pos ⟨hm.2 c.1,c.2⟩,gC]
  have gD:(H.gray1 t (H.getC t)).getC i=if i=t then(H.getC t).col 1 else H.getC i:=by
   have:(H.gray1 t (H.getC t)).getC i=if(i:Int).toNat=t then(H.getC t).col 1 else H.getC i:=by rw[getC_L,getC_L];exact getL_set ht
   rw[this,Int.toNat_natCast]
  unfold Heap.putP
  rw[gD]
  unfold Heap.gray1
  by_cases e:t=i
  ·subst e
   rw[if_pos rfl,if_pos rfl]
   simp only[List.set_set];rfl
  ·rw[if_neg e,if_neg (fun h=>e h.symm)]
   simp only[Heap.mk.injEq,true_and,and_true]
   exact List.set_comm _ _ (fun h=>e h.symm)
 ·rw[if_neg c,if_neg (fun h=>c ⟨hm.1 h.1,h.2⟩)]
theorem shadeW_put{H:Heap}{i k:Nat}{q:Pair}{w:Word}(hi:i<H.cells.length)(hf:Formed H w):(H.putP i k q).shadeW w=(H.shadeW w).putP i k q:=by
 unfold Heap.shadeW
 by_cases hk:w.kind=2
 ·rw[if_pos hk,if_pos hk]
  have:=hf.at hk
  exact shadeH_put hi (by omega)
 ·rw[if_neg hk,if_neg hk]
theorem l5pair_wr{a:Nat}{x:HX}{op n:Int}{ka kb kc:Nat}(h:Sound x.H)(ha:ka≤15)(hb:kb≤15)(ho:op=7∨op=8):FnA Tryz.prog 136 [ptr a,.agg #[.int .i64 op,.int .i64 ka,.int .i64 kb,.int .i64 kc,.int .i64 n]] (hp a x) (fun v As=>∃z:HX,v=an (doPair x.H ⟨op,ka,kb,kc,n⟩).code (doPair x.H ⟨op,ka,kb,kc,n⟩).num∧As=hp a z∧z.H=(doPair x.H ⟨op,ka,kb,kc,n⟩).heap):=by
 have hl:=x.len
 have hnc:x.hdr.nc=x.xs.length:=rfl
 have hnr:x.hdr.nr=x.regs.length:=rfl
 have h16:x.regs.length=16:=h.r1.regs
 obtain⟨v,gv⟩:∃w,x.regs[kb]?=some w:=⟨_,List.getElem?_eq_getElem (by omega)⟩
 obtain⟨w,gw⟩:∃w,x.regs[ka]?=some w:=⟨_,List.getElem?_eq_getElem (by omega)⟩
 have er:x.H.getR ka=w:=getR_at gw
 obtain⟨r1,r2⟩:=getR_ok h (r:=ka) (by omega) (by omega)
 rw[er]at r1 r2
 refine fnA_of (fun h=>fn136 (by simp) h) ?_
 unfold doPair
 dsimp only
 rw[if_neg (show ¬(op=5∨op=6) by omega),er]
 by_cases hk:w.kind=2
 ·obtain⟨b0,b1,b2,b3⟩:=r2 hk
  obtain⟨j,hj⟩:=Int.eq_ofNat_of_zero_le b0
  obtain⟨wk,wn,wat⟩:=w
  dsimp only at hk hj b1
  subst hk hj
  obtain⟨y,gy,gc⟩:=HX.at (x:=x) (i:=j) (by omega)
  have gk:=HX.gc gy
  rw[if_neg (fun e=>e rfl)]
  dsimp only
  rw[gk,Int.toNat_natCast]
  have hcj:x.H.cells[j]?=some y.c:=gc
  cases hpp:y.c.pairs[kc]? with
  |none=>
   have:=List.getElem?_eq_none_iff.1 hpp
   rcases ho with rfl|rfl
   ·repeat' (first
     |(refine k_L ?_;first|refine a_p rfl ?_|(refine k_g ?_;refine a_gy rfl rfl ?_)|(refine k_l ?_;first|refine a_l rfl (by exact rd_t (rd_h (rd_sl (fun _=>rfl) gw rfl))) ?_|refine g_l rfl ?_)|(refine k_i ?_;refine g_i rfl rfl ?_)|(refine k_st ?_;refine g_sw rfl rfl rfl rfl (Nat.le_of_ble_eq_true rfl) ?_)|(refine k_al ?_;refine a_al ?_)|(refine k_bx ?_;refine a_bx rfl rfl ?_)|(refine k_c ?_;refine a_cq rfl (fun m hm=>l5bad_q) ?_))
     |refine a_n ?_
     |(refine k_V ?_;first|refine v_seq ?_|refine v_reg ?_|refine v_dreg ?_|refine v_ret ?_|refine v_skip ?_|refine v_cf rfl ?_|(refine v_cd rfl (fun hb=>?_) (fun hb=>?_)<;>try(exfalso;omega)))
     |refine s_r ?_
     |refine sk_zero ?_
     |refine sk_succ ?_
     |refine wk_nil ?_
     |refine wk_cons ?_)
    all_goals exact fa_r (fun _ _=>rfl) (Pm.ent pmt) ⟨x,rfl,rfl,rfl⟩
   ·repeat' (first
     |(refine k_L ?_;first|refine a_p rfl ?_|(refine k_g ?_;refine a_gy rfl rfl ?_)|(refine k_l ?_;first|refine a_l rfl (by exact rd_t (rd_h (rd_sl (fun _=>rfl) gw rfl))) ?_|refine g_l rfl ?_)|(refine k_i ?_;refine g_i rfl rfl ?_)|(refine k_st ?_;refine g_sw rfl rfl rfl rfl (Nat.le_of_ble_eq_true rfl) ?_)|(refine k_al ?_;refine a_al ?_)|(refine k_bx ?_;refine a_bx rfl rfl ?_)|(refine k_c ?_;refine a_cq rfl (fun m hm=>l5bad_q) ?_))
     |refine a_n ?_
     |(refine k_V ?_;first|refine v_seq ?_|refine v_reg ?_|refine v_dreg ?_|refine v_ret ?_|refine v_skip ?_|refine v_cf rfl ?_|(refine v_cd rfl (fun hb=>?_) (fun hb=>?_)<;>try(exfalso;omega)))
     |refine s_r ?_
     |refine sk_zero ?_
     |refine sk_succ ?_
     |refine wk_nil ?_
     |refine wk_cons ?_)
    all_goals exact fa_r (fun _ _=>rfl) (Pm.ent pmt) ⟨x,rfl,rfl,rfl⟩
  |some p=>
   have:=(List.getElem?_eq_some_iff.1 hpp).1
   have ev:x.H.getR kb=v:=getR_at gv
   obtain⟨v1,v2⟩:=getR_ok h (r:=kb) (by omega) (by omega)
   rw[ev]at v1 v2
   rcases ho with rfl|rfl
   ·repeat' (first
     |(refine k_L ?_;first|refine a_p rfl ?_|(refine k_g ?_;refine a_gy rfl rfl ?_)|(refine k_l ?_;first|refine a_l rfl (by exact rd_t (rd_h (rd_sl (fun _=>rfl) gw rfl))) ?_|refine g_l rfl ?_)|(refine k_i ?_;refine g_i rfl rfl ?_)|(refine k_ls ?_;refine g_ls rfl ?_)|(refine k_st ?_;refine g_sw rfl rfl rfl rfl (Nat.le_of_ble_eq_true rfl) ?_)|(refine k_al ?_;refine a_al ?_)|(refine k_bx ?_;refine a_bx rfl rfl ?_))
     |refine a_n ?_
     |(refine k_V ?_;first|refine v_seq ?_|refine v_reg ?_|refine v_dreg ?_|refine v_bs ?_|refine v_skip ?_|refine v_ct rfl ?_|refine v_cf rfl ?_|(refine v_cd rfl (fun hb=>?_) (fun hb=>?_)<;>try(exfalso;omega)))
     |refine sk_zero ?_
     |refine sk_succ ?_
     |refine wk_nil ?_
     |refine wk_cons ?_)
    refine a_st rfl rfl rfl rfl (up_t (up_t (up_h (u_pair (p':=⟨v,p.val⟩) gy hpp)))) ?_
    have zH:HX.H {x with xs:=x.xs.set j (y.s_pair kc ⟨v,p.val⟩)}=x.H.putP j kc ⟨v,p.val⟩:=by
     unfold Heap.putP
     rw[gk]
     unfold HX.H
     simp only[List.map_set];rfl
    repeat' (first
     |(refine k_L ?_;first|refine a_p rfl ?_|(refine k_l ?_;refine g_l rfl ?_)|(refine k_i ?_;refine g_i rfl rfl ?_)|(refine k_ls ?_;refine g_ls rfl ?_))
     |refine a_n ?_
     |(refine k_V ?_;first|refine v_seq ?_|refine v_dreg ?_))
    rw[show((kc:Int)).toNat=kc from rfl]
    refine LA.ent (Pm.ent (fin ({x with xs:=x.xs.set j (y.s_pair kc ⟨v,p.val⟩)}:HX) (e1:=by simp[HX.hdr]))) ?_
    refine g_c rfl (l3shade_a (x:={x with xs:=x.xs.set j (y.s_pair kc ⟨v,p.val⟩)}) (w:=v) (fun hk=>by rw[zH];have:=v1.at hk;show _∧_<((x.H.cells.set j _).length:Int);rw[List.length_set];exact this) (by have:=h.r1.gray;have:=h.r1.cells;have:=h.r1.room;show x.gray.length≤_;have e:x.H.gray.length=x.gray.length:=rfl;omega)) (fun v' As' hq=>?_)
    obtain⟨u,rfl,rfl,hu,_⟩:=hq
    repeat' (first
     |(refine k_L ?_;first|(refine k_st ?_;refine g_sw rfl rfl rfl rfl (Nat.le_of_ble_eq_true rfl) ?_)|(refine k_c ?_;refine a_cq rfl (fun m hm=>l5fine_q) ?_))
     |refine a_n ?_
     |(refine k_V ?_;first|refine v_seq ?_|refine v_reg ?_|refine v_ret ?_)
     |refine sk_zero ?_
     |refine sk_succ ?_
     |refine wk_nil ?_
     |refine wk_cons ?_)
    all_goals exact fa_r (fun _ _=>rfl) (Pm.ent pmt) ⟨u,rfl,rfl,by rw[hu,zH,shadeW_put (by omega) v1,ev];rfl⟩
   ·repeat' (first
     |(refine k_L ?_;first|refine a_p rfl ?_|(refine k_g ?_;refine a_gy rfl rfl ?_)|(refine k_l ?_;first|refine a_l rfl (by exact rd_t (rd_h (rd_sl (fun _=>rfl) gw rfl))) ?_|refine g_l rfl ?_)|(refine k_i ?_;refine g_i rfl rfl ?_)|(refine k_ls ?_;refine g_ls rfl ?_)|(refine k_st ?_;refine g_sw rfl rfl rfl rfl (Nat.le_of_ble_eq_true rfl) ?_)|(refine k_al ?_;refine a_al ?_)|(refine k_bx ?_;refine a_bx rfl rfl ?_))
     |refine a_n ?_
     |(refine k_V ?_;first|refine v_seq ?_|refine v_reg ?_|refine v_dreg ?_|refine v_bs ?_|refine v_skip ?_|refine v_cf rfl ?_|(refine v_cd rfl (fun hb=>?_) (fun hb=>?_)<;>try(exfalso;omega)))
     |refine sk_zero ?_
     |refine sk_succ ?_
     |refine wk_nil ?_
     |refine wk_cons ?_)
    refine a_st rfl rfl rfl rfl (up_t (up_t (up_h (u_pair (p':=⟨p.key,v⟩) gy hpp)))) ?_
    have zH:HX.H {x with xs:=x.xs.set j (y.s_pair kc ⟨p.key,v⟩)}=x.H.putP j kc ⟨p.key,v⟩:=by
     unfold Heap.putP
     rw[gk]
     unfold HX.H
     simp only[List.map_set];rfl
    repeat' (first
     |(refine k_L ?_;first|refine a_p rfl ?_|(refine k_l ?_;refine g_l rfl ?_)|(refine k_i ?_;refine g_i rfl rfl ?_)|(refine k_ls ?_;refine g_ls rfl ?_))
     |refine a_n ?_
     |(refine k_V ?_;first|refine v_seq ?_|refine v_dreg ?_))
    rw[show((kc:Int)).toNat=kc from rfl]
    refine LA.ent (Pm.ent (fin ({x with xs:=x.xs.set j (y.s_pair kc ⟨p.key,v⟩)}:HX) (e1:=by simp[HX.hdr]))) ?_
    refine g_c rfl (l3shade_a (x:={x with xs:=x.xs.set j (y.s_pair kc ⟨p.key,v⟩)}) (w:=v) (fun hk=>by rw[zH];have:=v1.at hk;show _∧_<((x.H.cells.set j _).length:Int);rw[List.length_set];exact this) (by have:=h.r1.gray;have:=h.r1.cells;have:=h.r1.room;show x.gray.length≤_;have e:x.H.gray.length=x.gray.length:=rfl;omega)) (fun v' As' hq=>?_)
    obtain⟨u,rfl,rfl,hu,_⟩:=hq
    repeat' (first
     |(refine k_L ?_;first|(refine k_st ?_;refine g_sw rfl rfl rfl rfl (Nat.le_of_ble_eq_true rfl) ?_)|(refine k_c ?_;refine a_cq rfl (fun m hm=>l5fine_q) ?_))
     |refine a_n ?_
     |(refine k_V ?_;first|refine v_seq ?_|refine v_reg ?_|refine v_ret ?_)
     |refine sk_zero ?_
     |refine sk_succ ?_
     |refine wk_nil ?_
     |refine wk_cons ?_)
    all_goals exact fa_r (fun _ _=>rfl) (Pm.ent pmt) ⟨u,rfl,rfl,by rw[hu,zH,shadeW_put (by omega) v1,ev];rfl⟩
 ·rw[if_pos hk]
  rcases ho with rfl|rfl
  ·repeat' (first
    |(refine k_L ?_;first|refine a_p rfl ?_|(refine k_g ?_;refine a_gy rfl rfl ?_)|(refine k_l ?_;first|refine a_l rfl (by exact rd_t (rd_h (rd_sl (fun _=>rfl) gw rfl))) ?_|refine g_l rfl ?_)|(refine k_i ?_;refine g_i rfl rfl ?_)|(refine k_st ?_;refine g_sw rfl rfl rfl rfl (Nat.le_of_ble_eq_true rfl) ?_)|(refine k_al ?_;refine a_al ?_)|(refine k_bx ?_;refine a_bx rfl rfl ?_)|(refine k_c ?_;refine a_cq rfl (fun m hm=>l5bad_q) ?_))
    |refine a_n ?_
    |(refine k_V ?_;first|refine v_seq ?_|refine v_reg ?_|refine v_ret ?_|refine v_skip ?_|refine v_cf rfl ?_|(refine v_cn rfl (fun hb=>?_) (fun hb=>?_)<;>try(exfalso;omega)))
    |refine s_r ?_
    |refine sk_zero ?_
    |refine sk_succ ?_
    |refine wk_nil ?_
    |refine wk_cons ?_)
   all_goals exact fa_r (fun _ _=>rfl) (Pm.ent pmt) ⟨x,rfl,rfl,rfl⟩
  ·repeat' (first
    |(refine k_L ?_;first|refine a_p rfl ?_|(refine k_g ?_;refine a_gy rfl rfl ?_)|(refine k_l ?_;first|refine a_l rfl (by exact rd_t (rd_h (rd_sl (fun _=>rfl) gw rfl))) ?_|refine g_l rfl ?_)|(refine k_i ?_;refine g_i rfl rfl ?_)|(refine k_st ?_;refine g_sw rfl rfl rfl rfl (Nat.le_of_ble_eq_true rfl) ?_)|(refine k_al ?_;refine a_al ?_)|(refine k_bx ?_;refine a_bx rfl rfl ?_)|(refine k_c ?_;refine a_cq rfl (fun m hm=>l5bad_q) ?_))
    |refine a_n ?_
    |(refine k_V ?_;first|refine v_seq ?_|refine v_reg ?_|refine v_ret ?_|refine v_skip ?_|refine v_cf rfl ?_|(refine v_cn rfl (fun hb=>?_) (fun hb=>?_)<;>try(exfalso;omega)))
    |refine s_r ?_
    |refine sk_zero ?_
    |refine sk_succ ?_
    |refine wk_nil ?_
    |refine wk_cons ?_)
   all_goals exact fa_r (fun _ _=>rfl) (Pm.ent pmt) ⟨x,rfl,rfl,rfl⟩
theorem l5cell_a{a:Nat}{x:HX}{op n:Int}{ka kb kc:Nat}(h:Sound x.H)(ha:ka≤15)(ho:op=11∨op=16∨op=17):FnA Tryz.prog 137 [ptr a,.agg #[.int .i64 op,.int .i64 ka,.int .i64 kb,.int .i64 kc,.int .i64 n]] (hp a x) (fun v As=>∃z:HX,v=an (doCell x.H ⟨op,ka,kb,kc,n⟩).code (doCell x.H ⟨op,ka,kb,kc,n⟩).num∧As=hp a z∧z.H=(doCell x.H ⟨op,ka,kb,kc,n⟩).heap):=by
 have hl:=x.len
 have hnc:x.hdr.nc=x.xs.length:=rfl
 have hnr:x.hdr.nr=x.regs.length:=rfl
 have h16:x.regs.length=16:=h.r1.regs
 obtain⟨w,gw⟩:∃w,x.regs[ka]?=some w:=⟨_,List.getElem?_eq_getElem (by omega)⟩
 have er:x.H.getR ka=w:=getR_at gw
 obtain⟨r1,r2⟩:=getR_ok h (r:=ka) (by omega) (by omega)
 rw[er]at r1 r2
 refine fnA_of (fun h=>fn137 (by simp) h) ?_
 unfold doCell
 dsimp only
 rw[er]
 by_cases hk:w.kind=2
 ·obtain⟨b0,b1,b2,b3⟩:=r2 hk
  obtain⟨j,hj⟩:=Int.eq_ofNat_of_zero_le b0
  obtain⟨wk,wn,wat⟩:=w
  dsimp only at hk hj b1
  subst hk hj
  obtain⟨y,gy,gc⟩:=HX.at (x:=x) (i:=j) (by omega)
  have gk:=HX.gc gy
  rw[if_neg (fun e=>e rfl)]
  dsimp only
  rw[gk]
  rcases ho with rfl|rfl|rfl
  ·repeat' (first
    |(refine k_L ?_;first|refine a_p rfl ?_|(refine k_l ?_;refine g_l rfl ?_)|(refine k_i ?_;refine g_i rfl rfl ?_)|(refine k_ls ?_;refine g_ls rfl ?_)|(refine k_st ?_;first|refine g_st rfl rfl rfl rfl ?_|refine g_sw rfl rfl rfl rfl (Nat.le_of_ble_eq_true rfl) ?_)|(refine k_al ?_;refine a_al ?_)|(refine k_bx ?_;refine a_bx rfl rfl ?_)|(refine k_c ?_;refine a_cq rfl (fun m hm=>l5fine_q) ?_))
    |refine a_n ?_
    |(refine k_V ?_;first|refine v_seq ?_|refine v_reg ?_|refine v_dreg ?_|refine v_bs ?_|refine v_ret ?_|refine v_skip ?_|refine v_ct rfl ?_|refine v_cf rfl ?_)
    |refine sk_zero ?_
    |refine sk_succ ?_
    |refine wk_nil ?_
    |refine wk_cons ?_)
   refine fa_r (fun _ _=>rfl) (Pm.ent (fin ({x with xs:=x.xs.set j (y.s_weak kc)}:HX) (e1:=by simp[HX.hdr]))) ⟨_,rfl,rfl,?_⟩
   show _=x.H.putW j kc
   unfold Heap.putW
   rw[gk]
   unfold HX.H
   simp only[List.map_set];rfl
  ·repeat' (first
    |(refine k_L ?_;first|refine a_p rfl ?_|(refine k_l ?_;refine g_l rfl ?_)|(refine k_i ?_;refine g_i rfl rfl ?_)|(refine k_ls ?_;refine g_ls rfl ?_)|(refine k_st ?_;refine g_sw rfl rfl rfl rfl (Nat.le_of_ble_eq_true rfl) ?_)|(refine k_al ?_;refine a_al ?_)|(refine k_bx ?_;refine a_bx rfl rfl ?_)|(refine k_q ?_;refine a_q rfl (fun m hm=>l5fine_q) ?_))
    |refine a_n ?_
    |(refine k_V ?_;first|refine v_seq ?_|refine v_reg ?_|refine v_dreg ?_|refine v_bs ?_|refine v_ret ?_|refine v_skip ?_|refine v_ct rfl ?_|refine v_cf rfl ?_)
    |refine s_r ?_
    |refine b_r ?_
    |refine sk_zero ?_
    |refine sk_succ ?_
    |refine wk_nil ?_
    |refine wk_cons ?_)
   all_goals exact fa_r (fun _ _=>rfl) (Pm.ent pmt) ⟨x,rfl,rfl,rfl⟩
  ·repeat' (first
    |(refine k_L ?_;first|refine a_p rfl ?_|(refine k_l ?_;refine g_l rfl ?_)|(refine k_i ?_;refine g_i rfl rfl ?_)|(refine k_ls ?_;refine g_ls rfl ?_)|(refine k_st ?_;refine g_sw rfl rfl rfl rfl (Nat.le_of_ble_eq_true rfl) ?_)|(refine k_al ?_;refine a_al ?_)|(refine k_bx ?_;refine a_bx rfl rfl ?_)|(refine k_q ?_;refine a_q rfl (fun m hm=>l5fine_q) ?_))
    |refine a_n ?_
    |(refine k_V ?_;first|refine v_seq ?_|refine v_reg ?_|refine v_dreg ?_|refine v_bs ?_|refine v_ret ?_|refine v_skip ?_|refine v_ct rfl ?_|refine v_cf rfl ?_)
    |refine s_r ?_
    |refine b_r ?_
    |refine sk_zero ?_
    |refine sk_succ ?_
    |refine wk_nil ?_
    |refine wk_cons ?_)
   all_goals exact fa_r (fun _ _=>rfl) (Pm.ent pmt) ⟨x,rfl,rfl,rfl⟩
 ·rw[if_pos hk]
  repeat' (first
   |(refine k_L ?_;first|refine a_p rfl ?_|(refine k_l ?_;refine g_l rfl ?_)|(refine k_i ?_;refine g_i rfl rfl ?_)|(refine k_ls ?_;refine g_ls rfl ?_)|(refine k_st ?_;refine g_sw rfl rfl rfl rfl (Nat.le_of_ble_eq_true rfl) ?_)|(refine k_al ?_;refine a_al ?_)|(refine k_bx ?_;refine a_bx rfl rfl ?_)|(refine k_c ?_;refine a_cq rfl (fun m hm=>l5bad_q) ?_))
   |refine a_n ?_
   |(refine k_V ?_;first|refine v_seq ?_|refine v_reg ?_|refine v_dreg ?_|refine v_ret ?_|(refine v_cn rfl (fun hb=>?_) (fun hb=>?_)<;>try(exfalso;omega)))
   |refine s_r ?_
   |refine sk_zero ?_
   |refine sk_succ ?_
   |refine wk_nil ?_
   |refine wk_cons ?_)
  all_goals exact fa_r (fun _ _=>rfl) (Pm.ent pmt) ⟨x,rfl,rfl,rfl⟩
theorem shadeH_putL{H:Heap}{i t:Nat}{q:Int}(hi:i<H.cells.length)(ht:t<H.cells.length):(H.putL i q).shadeH t=(H.shadeH t).putL i q:=by
 have gC:(H.putL i q).getC t=if t=i then{H.getC i with last:=q}else H.getC t:=by
  have:(H.putL i q).getC t=if(t:Int).toNat=i then{H.getC i with last:=q}else H.getC t:=by rw[getC_L,getC_L];exact getL_set hi
  rw[this,Int.toNat_natCast]
 have hcl:((H.putL i q).getC t).color=(H.getC t).color:=by
  rw[gC];split
  ·rename_i e;rw[e]
  ·rfl
 unfold Heap.shadeH
 rw[hcl]
 have hm:Marking (H.putL i q)↔Marking H:=Iff.rfl
 by_cases c:Marking H∧(H.getC t).color=0
 ·rw[if_pos c,if_pos ⟨hm.2 c.1,c.2⟩,gC]
  have gD:(H.gray1 t (H.getC t)).getC i=if i=t then(H.getC t).col 1 else H.getC i:=by
   have:(H.gray1 t (H.getC t)).getC i=if(i:Int).toNat=t then(H.getC t).col 1 else H.getC i:=by rw[getC_L,getC_L];exact getL_set ht
   rw[this,Int.toNat_natCast]
  unfold Heap.putL
  rw[gD]
  unfold Heap.gray1
  by_cases e:t=i
  ·subst e
   rw[if_pos rfl,if_pos rfl]
   simp only[List.set_set];rfl
  ·rw[if_neg e,if_neg (fun h=>e h.symm)]
   simp only[Heap.mk.injEq,true_and,and_true]
   exact List.set_comm _ _ (fun h=>e h.symm)
 ·rw[if_neg c,if_neg (fun h=>c ⟨hm.1 h.1,h.2⟩)]
theorem shadeW_putL{H:Heap}{i:Nat}{q:Int}{w:Word}(hi:i<H.cells.length)(hf:Formed H w):(H.putL i q).shadeW w=(H.shadeW w).putL i q:=by
 unfold Heap.shadeW
 by_cases hk:w.kind=2
 ·rw[if_pos hk,if_pos hk]
  have:=hf.at hk
  exact shadeH_putL hi (by omega)
 ·rw[if_neg hk,if_neg hk]
theorem l5cell_b{a:Nat}{x:HX}{op n:Int}{ka kb kc:Nat}(h:Sound x.H)(ha:ka≤15)(ho:op=10∨op=12):FnA Tryz.prog 137 [ptr a,.agg #[.int .i64 op,.int .i64 ka,.int .i64 kb,.int .i64 kc,.int .i64 n]] (hp a x) (fun v As=>∃z:HX,v=an (doCell x.H ⟨op,ka,kb,kc,n⟩).code (doCell x.H ⟨op,ka,kb,kc,n⟩).num∧As=hp a z∧z.H=(doCell x.H ⟨op,ka,kb,kc,n⟩).heap):=by
 have hl:=x.len
 have hnc:x.hdr.nc=x.xs.length:=rfl
 have hnr:x.hdr.nr=x.regs.length:=rfl
 have h16:x.regs.length=16:=h.r1.regs
 obtain⟨w,gw⟩:∃w,x.regs[ka]?=some w:=⟨_,List.getElem?_eq_getElem (by omega)⟩
 have er:x.H.getR ka=w:=getR_at gw
 obtain⟨r1,r2⟩:=getR_ok h (r:=ka) (by omega) (by omega)
 rw[er]at r1 r2
 refine fnA_of (fun h=>fn137 (by simp) h) ?_
 unfold doCell
 dsimp only
 rw[er]
 by_cases hk:w.kind=2
 ·obtain⟨b0,b1,b2,b3⟩:=r2 hk
  obtain⟨j,hj⟩:=Int.eq_ofNat_of_zero_le b0
  obtain⟨wk,wn,wat⟩:=w
  dsimp only at hk hj b1 b2
  subst hk hj
  obtain⟨y,gy,gc⟩:=HX.at (x:=x) (i:=j) (by omega)
  have gk:=HX.gc gy
  have hpl:=h.r2.pl (List.mem_of_getElem? gc)
  rw[if_neg (fun e=>e rfl)]
  dsimp only
  rw[Int.toNat_natCast]
  rcases ho with rfl|rfl
  ·repeat' (first
    |(refine k_L ?_;first|refine a_p rfl ?_|(refine k_l ?_;refine g_l rfl ?_)|(refine k_i ?_;refine g_i rfl rfl ?_)|(refine k_ls ?_;refine g_ls rfl ?_)|(refine k_st ?_;refine g_sw rfl rfl rfl rfl (Nat.le_of_ble_eq_true rfl) ?_)|(refine k_al ?_;refine a_al ?_)|(refine k_bx ?_;refine a_bx rfl rfl ?_)|(refine k_c ?_;refine a_cq rfl (fun m hm=>l5fine_q) ?_)|(refine g_c rfl (l5cut_a (x:=x) (i:=j) (n:=kc) h (by omega) b2) (fun v As' hq=>?_);obtain⟨z,rfl,hz⟩:=hq))
    |refine a_n ?_
    |(refine k_V ?_;first|refine v_seq ?_|refine v_reg ?_|refine v_dreg ?_|refine v_bs ?_|refine v_ret ?_|refine v_skip ?_|refine v_ct rfl ?_|refine v_cf rfl ?_)
    |refine sk_zero ?_
    |refine sk_succ ?_
    |refine wk_nil ?_
    |refine wk_cons ?_)
   all_goals exact fa_r (fun _ _=>rfl) (Pm.ent pmt) ⟨z,rfl,rfl,hz⟩
  ·have zH:HX.H {x with xs:=x.xs.set j (y.s_last kc)}=x.H.putL j kc:=by
    unfold Heap.putL
    rw[gk]
    unfold HX.H
    simp only[List.map_set];rfl
   by_cases hc1:(kc:Int)=1
   ·have hkc:kc=1:=by omega
    subst hkc
    rw[if_pos hc1]
    repeat' (first
     |(refine k_L ?_;first|refine a_p rfl ?_|(refine k_l ?_;refine g_l rfl ?_)|(refine k_i ?_;refine g_i rfl rfl ?_)|(refine k_ls ?_;refine g_ls rfl ?_)|(refine k_st ?_;first|refine g_st rfl rfl rfl rfl ?_|refine g_sw rfl rfl rfl rfl (Nat.le_of_ble_eq_true rfl) ?_)|(refine k_al ?_;refine a_al ?_)|(refine k_bx ?_;refine a_bx rfl rfl ?_))
     |refine a_n ?_
     |(refine k_V ?_;first|refine v_seq ?_|refine v_reg ?_|refine v_dreg ?_|refine v_bs ?_|refine v_skip ?_|refine v_ct rfl ?_|refine v_cf rfl ?_)
     |refine sk_zero ?_
     |refine sk_succ ?_
     |refine wk_nil ?_
     |refine wk_cons ?_)
    refine LA.ent (Pm.ent (fin ({x with xs:=x.xs.set j (y.s_last (1:Nat))}:HX) (e1:=by simp[HX.hdr]))) ?_
    refine g_c rfl (l3shade_a (x:={x with xs:=x.xs.set j (y.s_last (1:Nat))}) (w:=⟨2,wn,j⟩) (fun hk=>by rw[zH];have:=r1.at hk;show _∧_<((x.H.cells.set j _).length:Int);rw[List.length_set];exact this) (by have:=h.r1.gray;have:=h.r1.cells;have:=h.r1.room;show x.gray.length≤_;have e:x.H.gray.length=x.gray.length:=rfl;omega)) (fun v' As' hq=>?_)
    obtain⟨u,rfl,rfl,hu,_⟩:=hq
    repeat' (first
     |(refine k_L ?_;first|(refine k_st ?_;refine g_sw rfl rfl rfl rfl (Nat.le_of_ble_eq_true rfl) ?_)|(refine k_c ?_;refine a_cq rfl (fun m hm=>l5fine_q) ?_))
     |refine a_n ?_
     |(refine k_V ?_;first|refine v_seq ?_|refine v_reg ?_|refine v_ret ?_)
     |refine sk_zero ?_
     |refine sk_succ ?_
     |refine wk_nil ?_
     |refine wk_cons ?_)
    all_goals exact fa_r (fun _ _=>rfl) (Pm.ent pmt) ⟨u,rfl,rfl,by rw[hu,zH,shadeW_putL (by omega) r1];rfl⟩
   ·rw[if_neg hc1]
    repeat' (first
     |(refine k_L ?_;first|refine a_p rfl ?_|(refine k_l ?_;refine g_l rfl ?_)|(refine k_i ?_;refine g_i rfl rfl ?_)|(refine k_ls ?_;refine g_ls rfl ?_)|(refine k_st ?_;first|refine g_st rfl rfl rfl rfl ?_|refine g_sw rfl rfl rfl rfl (Nat.le_of_ble_eq_true rfl) ?_)|(refine k_al ?_;refine a_al ?_)|(refine k_bx ?_;refine a_bx rfl rfl ?_)|(refine k_c ?_;refine a_cq rfl (fun m hm=>l5fine_q) ?_))
     |refine a_n ?_
     |(refine k_V ?_;first|refine v_seq ?_|refine v_reg ?_|refine v_dreg ?_|refine v_bs ?_|refine v_ret ?_|refine v_skip ?_|refine v_ct rfl ?_|refine v_cf rfl ?_|(refine v_cd rfl (fun hb=>?_) (fun hb=>?_)<;>try(exfalso;omega)))
     |refine sk_zero ?_
     |refine sk_succ ?_
     |refine wk_nil ?_
     |refine wk_cons ?_)
    all_goals exact fa_r (fun _ _=>rfl) (Pm.ent (fin ({x with xs:=x.xs.set j (y.s_last kc)}:HX) (e1:=by simp[HX.hdr]))) ⟨_,rfl,rfl,zH⟩
 ·rw[if_pos hk]
  rcases ho with rfl|rfl
  ·repeat' (first
    |(refine k_L ?_;first|refine a_p rfl ?_|(refine k_l ?_;refine g_l rfl ?_)|(refine k_i ?_;refine g_i rfl rfl ?_)|(refine k_ls ?_;refine g_ls rfl ?_)|(refine k_st ?_;refine g_sw rfl rfl rfl rfl (Nat.le_of_ble_eq_true rfl) ?_)|(refine k_al ?_;refine a_al ?_)|(refine k_bx ?_;refine a_bx rfl rfl ?_)|(refine k_c ?_;refine a_cq rfl (fun m hm=>l5bad_q) ?_))
    |refine a_n ?_
    |(refine k_V ?_;first|refine v_seq ?_|refine v_reg ?_|refine v_dreg ?_|refine v_ret ?_|(refine v_cn rfl (fun hb=>?_) (fun hb=>?_)<;>try(exfalso;omega)))
    |refine s_r ?_
    |refine sk_zero ?_
    |refine sk_succ ?_
    |refine wk_nil ?_
    |refine wk_cons ?_)
   all_goals exact fa_r (fun _ _=>rfl) (Pm.ent pmt) ⟨x,rfl,rfl,rfl⟩
  ·repeat' (first
    |(refine k_L ?_;first|refine a_p rfl ?_|(refine k_l ?_;refine g_l rfl ?_)|(refine k_i ?_;refine g_i rfl rfl ?_)|(refine k_ls ?_;refine g_ls rfl ?_)|(refine k_st ?_;refine g_sw rfl rfl rfl rfl (Nat.le_of_ble_eq_true rfl) ?_)|(refine k_al ?_;refine a_al ?_)|(refine k_bx ?_;refine a_bx rfl rfl ?_)|(refine k_c ?_;refine a_cq rfl (fun m hm=>l5bad_q) ?_))
    |refine a_n ?_
    |(refine k_V ?_;first|refine v_seq ?_|refine v_reg ?_|refine v_dreg ?_|refine v_ret ?_|(refine v_cn rfl (fun hb=>?_) (fun hb=>?_)<;>try(exfalso;omega)))
    |refine s_r ?_
    |refine sk_zero ?_
    |refine sk_succ ?_
    |refine wk_nil ?_
    |refine wk_cons ?_)
   all_goals exact fa_r (fun _ _=>rfl) (Pm.ent pmt) ⟨x,rfl,rfl,rfl⟩
end Go.Proofs.YtcjmodomfilagaaGreat.E
namespace Go.Proofs.YtcjmodomfilagaaGreat.E
open Go
noncomputable def e135:Env:=⟨Tryz.prog,[3,4,6,73],105,[(5,0),(10,7),(11,7),(13,9)]⟩
abbrev jE(a0:Nat)(a1:Int)(a2:Int)(a3:Int)(a4:Int)(a5:Int)(a6:Int)(a7:Int)(a8:Nat)(a9:Nat)(a10:Nat)(a11:Nat)(a12:Int)(a13:Nat)(a14:Nat)(a15:Nat)(a16:Nat)(a17:Nat)(a18:Nat)(a19:Nat)(a20:Nat)(a21:Nat):I:=⟨some a0,none,.build [.int .i64 a1,.int .i64 a2,.int .i64 a3,.int .i64 a4,.int .i64 a5,.int .i64 a6,.int .i64 a7,.slice none a8 a9] [(a10,a11,.const (.int .i64 a12)),(a13,a14,.tmp a15),(a16,a17,.tmp a18),(a19,a20,.tmp a21)]⟩
noncomputable def c135:C:=
 .seq (.reg [zY 3 1,qR 4 0 0]) (.seq (.reg [z4 8 3 3,z5 9 1 8,zi 10 1 9,z3 5 10]) (.seq (.seq (.reg [z3 11 0,z6 12 11,z4 13 2 12,z5 14 1 13,z7 15 14 1000000000,z3 16 15,zN 17 16 0,zN 18 16 5,qH 19 16 142 17 18,zf 20 16 19,zO 21 16 20]) (.cond (.tmp 21) (.seq (.reg [zk 22 134 4,z8 2 4 22]) .ret) .skip)) (.seq (.reg [z3 23 0,z6 24 23,z4 25 2 24,z5 26 1 25,zP 27 26 1,z6 28 23,z4 29 2 28,z8 1 29
 27]) (.seq (.hreg [3,4,73] [z4 30 2 3,z5 31 1 30,z3 32 0,z6 33 32,z4 34 2 33,z5 35 1 34,z4 36 3 3,z5 37 1 36] (.alt ⟨some 38,none,.mkslice 6 48 [.int .i64 0,.int .i64 0,.int .i64 0,.int .i64 0,.int .i64 0,.int .i64 0] (.tmp 37) (.tmp 37)⟩ (.alt (jE 39 0 0 0 0 0 0 0 0 0 0 1 1 1 1 31 4 1 35 7 1 38) (.alt (zX 6 0 0 0 0 0 0 0 0 0) (.alf (z8 8 6 39) (.done) (.none)) (.none)) (.alt (zX 6 0 0 0 0 0 0 0
 0 0) (.alt (jE 39 0 0 0 0 0 0 0 0 0 0 1 1 1 1 31 4 1 35 7 1 38) (.alf (z8 8 6 39) (.done) (.none)) (.none)) (.none))) (.alt (zX 6 0 0 0 0 0 0 0 0 0) (.alt ⟨some 38,none,.mkslice 6 48 [.int .i64 0,.int .i64 0,.int .i64 0,.int .i64 0,.int .i64 0,.int .i64 0] (.tmp 37) (.tmp 37)⟩ (.alt (jE 39 0 0 0 0 0 0 0 0 0 0 1 1 1 1 31 4 1 35 7 1 38) (.alf (z8 8 6 39) (.done) (.none)) (.none)) (.none))
 (.none)))) (.seq (.reg [z3 40 0,zM 41 129 40,z3 7 41]) (.seq (.seq (.reg [z3 42 0,zM 43 132 42,z3 44 43,zN 45 44 0,zZ 46 44 45,zG 47 44 5 46,zK 48 44 1 47,zx 49 44 48 3,zN 50 44 49,zF 51 50 7,zF 52 50 0,zT 53 50 52,zE 54 50 6 53,zD 55 50 1 54,qo 56 50 51 55,q9 57 44 50 56,zO 58 44 57]) (.cond (.tmp 58) (.reg [z4 59 5 6,zo 1 59 2]) .skip)) (.seq (.seq (.reg [z3 60 7,z3 61 0,z6 62 61,z4 63 4 62,
 z5 64 1 63,zI 65 64,zz 66 60 65]) (.cond (.tmp 66) (.dreg 7 [z3 67 0,z3 68 0,z6 69 68,z4 70 4 69,z5 71 1 70,zA 72 8 6,jB 73 1 8 0 0 0 0 0 0 0 0 0 0 8 72,jC 74 8 80 0 0 0 0 0 0 0 0 0 71 73,z6 75 67,z4 76 4 75,z8 1 76 74]) (.dreg 7 [z3 77 0,z6 78 77,z4 79 4 78,z5 80 1 79,z3 81 7,zA 82 8 6,z9 83 8 80 81,z8 8 83 82]))) (.seq (.reg [z3 84 0,z6 85 84,z4 86 1 85,z5 87 1 86,z3 88 5,q6 89 87 88,z6 90
 84,z4 91 1 90,z8 1 91 89]) (.seq (.dreg 9 [z3 92 0,z6 93 92,z4 94 3 93,z5 95 1 94,z4 96 1 3,z5 97 1 96,z3 98 7,qJ 99 0 0 0 0 1 2 2 1 98,z9 100 3 95 97,z8 3 100 99]) (.seq (.reg [z3 101 0,z3 102 5,zU 103 143 101 102]) (.seq (.reg [zk 104 138 0,z8 2 4 104]) .ret)))))))))))
theorem t135:Tryz.f135.body.bind (trC e135)=some c135:=by kernel_rfl
theorem r135:Tryz.f135.results.toList.mapM (trR Tryz.prog)=some [.cell 4 false 2]:=by kernel_rfl
theorem fn135{args:List Value}{M:Mem}{post:Value→Mem→Prop}(hl:args.length≤105)(h:VC e135 c135 (fnQ [.cell 4 false 2] post) (initS args 105) M):Fn Tryz.prog 135 args M post:=
 Fn.of' (E:=e135) Tryz.func135 t135 rfl r135 mixed hl h
noncomputable def e144:Env:=⟨Tryz.prog,[3,4,66],84,[(1,17),(6,9),(10,0),(11,9)]⟩
noncomputable def c144:C:=
 .seq (.reg [zY 3 1,qR 4 0 0]) (.seq (.dreg 17 [z3 8 0,z6 9 8,z4 10 4 9,z5 11 1 10,z3 12 0,z6 13 12,z4 14 3 13,z5 15 1 14,z4 16 1 3,z5 17 1 16,z9 18 3 15 17,z4 19 2 18,z5 20 1 19,z9 21 8 11 20,z4 22 7 21,z5 23 1 22,zI 24 23,z3 5 24]) (.seq (.seq (.reg [z3 25 5,z4 26 3 3,z5 27 1 26,q6 28 25 27,q0 29 28 200]) (.cond (.tmp 29) (.seq (.reg [zk 30 134 5,z8 2 4 30]) .ret) .skip)) (.seq (.seq (.reg [
 z3 31 0,z4 32 3 3,z5 33 1 32,zU 34 142 31 33,zW 35 34]) (.cond (.tmp 35) (.seq (.reg [zk 36 134 4,z8 2 4 36]) .ret) .skip)) (.seq (.dreg 9 [z3 37 0,z6 38 37,z4 39 3 38,z5 40 1 39,z4 41 1 3,z5 42 1 41,z9 43 3 40 42,z4 44 2 43,z5 45 1 44,z3 6 45]) (.seq (.seq (.reg [zC 7 0]) (.block 0 (.loop (.seq (.seq (.reg [z3 46 7,z4 47 3 3,z5 48 1 47,zQ 49 46 48]) (.cond (.tmp 49) .skip (.exit 0))) (.seq
 (.block 1 (.hreg [3,4] [z3 52 0,z6 53 52,z4 54 4 53,z5 55 1 54,z3 56 6,z3 57 0,z6 58 57,z4 59 4 58,z5 60 1 59,z3 61 6,z9 62 8 60 61,z4 63 7 62,z5 64 1 63,⟨some 65,none,.build [.int .i64 0,.int .i64 0,.int .i64 0,.int .i64 0,.int .i64 0,.int .i64 0] []⟩] (.alt (jD 66 1 6 0 0 0 0 0 0 0 6 65) (.alt (qt 67 6 48 0 0 0 0 0 0 64 66) (.alf (z9 68 8 55 56) (.alf (z4 69 7 68) (.alf (z8 1 69 67) (.done)
 (.none)) (.none)) (.none)) (.none)) (.none)))) (.reg [z3 50 7,zP 51 50 1,z3 7 51])))))) (.seq (.dreg 9 [z3 70 0,z6 71 70,z4 72 1 71,z5 73 1 72,z4 74 3 3,z5 75 1 74,q6 76 73 75,z6 77 70,z4 78 1 77,z8 1 78 76]) (.seq (.reg [z3 79 0,z4 80 3 3,z5 81 1 80,zU 82 143 79 81]) (.seq (.reg [zk 83 138 0,z8 2 4 83]) .ret))))))))
theorem t144:Tryz.f144.body.bind (trC e144)=some c144:=by kernel_rfl
theorem r144:Tryz.f144.results.toList.mapM (trR Tryz.prog)=some [.cell 4 false 2]:=by kernel_rfl
theorem fn144{args:List Value}{M:Mem}{post:Value→Mem→Prop}(hl:args.length≤84)(h:VC e144 c144 (fnQ [.cell 4 false 2] post) (initS args 84) M):Fn Tryz.prog 144 args M post:=
 Fn.of' (E:=e144) Tryz.func144 t144 rfl r144 mixed hl h
end Go.Proofs.YtcjmodomfilagaaGreat.E
namespace Go.Proofs.YtcjmodomfilagaaGreat.E
open Go
open Classical
theorem cl_split{cd:D}{ys:List CS}{i:Nat}{y:CS}{R:List Asr}(hi:ys[i]?=some y):Ent (clA cd ys::R) (slA 8 csv cd ys::slA 6 pv y.d y.c.pairs::prA (ys.eraseIdx i)::R):=cl_open.trans (Ent.cons (ent_of fun m hm=>by
 obtain⟨a,b,d,rfl,h1,h2⟩:=hm
 have:=pr_out hi h1
 obtain⟨c,e,d2,rfl,k1,k2⟩:=star2.1 this
 refine⟨c,e.un b,?_,un_assoc _ _ _,k1,e,b,(disj_un'.1 d).2,rfl,k2,h2⟩
 exact disj_un.2 ⟨d2,(disj_un'.1 d).1⟩))
theorem cl_join{cd:D}{ys:List CS}{i:Nat}{y':CS}{R:List Asr}(hi:i<ys.length):Ent (slA 8 csv cd (ys.set i y')::slA 6 pv y'.d y'.c.pairs::prA (ys.eraseIdx i)::R) (clA cd (ys.set i y')::R):=(Ent.cons (ent_of fun m hm=>by
 obtain⟨c,r,d,rfl,k1,e,b,d2,rfl,k2,h2⟩:=hm
 obtain⟨d3,d4⟩:=disj_un.1 d
 refine⟨c.un e,b,disj_un'.2 ⟨d4,d2⟩,(un_assoc _ _ _).symm,pr_in hi (star2.2 ⟨c,e,d3,rfl,k1,k2⟩),h2⟩)).trans cl_close
def Heap.addP(K:Heap)(i n:Nat):Heap:={K with cells:=K.cells.set i {K.getC i with pairs:=(K.getC i).pairs++List.replicate n Pair.no}}
theorem addP_zero{K:Heap}{i:Nat}(hi:i<K.cells.length):K.addP i 0=K:=by
 unfold Heap.addP
 have e1:K.cells.set i {K.getC i with pairs:=(K.getC i).pairs++List.replicate 0 Pair.no}=K.cells:=by
  rw[List.replicate_zero,List.append_nil]
  refine List.ext_getElem? fun j=>?_
  rw[List.getElem?_set]
  split
  ·rename_i e
   subst e
   rw[get_at hi]
  ·rfl
 rw[e1]
theorem addP_get{K:Heap}{i n:Nat}(hi:i<K.cells.length):(K.addP i n).getC i={K.getC i with pairs:=(K.getC i).pairs++List.replicate n Pair.no}:=by
 have:(K.addP i n).getC i=if(i:Int).toNat=i then{K.getC i with pairs:=(K.getC i).pairs++List.replicate n Pair.no}else K.getC i:=by rw[getC_L,getC_L];exact getL_set hi
 rw[this,if_pos (by omega)]
theorem addP_len{K:Heap}{i n:Nat}:(K.addP i n).cells.length=K.cells.length:=by unfold Heap.addP;simp
theorem growC_add{K:Heap}{i n:Nat}:K.growC i n={K.addP i n with used:=K.used+n}:=rfl
theorem addP_succ{K:Heap}{i n:Nat}(hi:i<K.cells.length):{K.addP i n with cells:=(K.addP i n).cells.set i {(K.addP i n).getC i with pairs:=((K.addP i n).getC i).pairs++[Pair.no]}}=K.addP i (n+1):=by
 rw[addP_get hi]
 unfold Heap.addP
 simp only[List.set_set,List.append_assoc,Heap.mk.injEq,true_and,and_true]
 rw[List.replicate_succ']
theorem l5grow_a{a:Nat}{x:HX}{op n:Int}{ka kb kc:Nat}(h:Sound x.H)(ha:ka≤15)(hc:kc≤200)(hk0:(x.H.getR ka).kind=2):FnA Tryz.prog 144 [ptr a,.agg #[.int .i64 op,.int .i64 ka,.int .i64 kb,.int .i64 kc,.int .i64 n]] (hp a x) (fun v As=>∃z:HX,v=an (doGrow x.H ⟨op,ka,kb,kc,n⟩).code (doGrow x.H ⟨op,ka,kb,kc,n⟩).num∧As=hp a z∧z.H=(doGrow x.H ⟨op,ka,kb,kc,n⟩).heap):=by
 have hl:=x.len
 have hnc:x.hdr.nc=x.xs.length:=rfl
 have hnr:x.hdr.nr=x.regs.length:=rfl
 have h16:x.regs.length=16:=h.r1.regs
 obtain⟨w,gw⟩:∃w,x.regs[ka]?=some w:=⟨_,List.getElem?_eq_getElem (by omega)⟩
 have er:x.H.getR ka=w:=getR_at gw
 obtain⟨r1,r2⟩:=getR_ok h (r:=ka) (by omega) (by omega)
 have hk:=hk0
 rw[er]at r1 r2 hk
 obtain⟨b0,b1,b2,b3⟩:=r2 hk
 obtain⟨j,hj⟩:=Int.eq_ofNat_of_zero_le b0
 obtain⟨y,gy,gc⟩:=HX.at (x:=x) (i:=j) (by omega)
 have gk:=HX.gc gy
 have hpl:=h.r2.pl (List.mem_of_getElem? gc)
 refine fnA_of (fun h=>fn144 (by simp) h) ?_
 obtain⟨f1,f2,f3,f4,f5,f6,f7⟩:=fits_ok h kc
 obtain⟨q1,q2⟩:=reg_len h f1 f2 f3 (r:=ka) (by omega) (by omega) hk0
 unfold doGrow
 dsimp only
 obtain⟨wk,wn,wat⟩:=w
 dsimp only at hk hj b1 b2
 subst hk hj
 rw[er]at q2⊢
 dsimp only at q2⊢
 rw[gk]at q2⊢
 by_cases c1:(y.c.pairs.length:Int)+kc>200
 ·rw[if_pos c1]
  repeat' (first
   |(refine k_L ?_;first|(refine k_ad ?_;refine g_ad rfl rfl ?_)|refine a_p rfl ?_|(refine k_l ?_;first|refine a_l rfl (by exact rd_t (rd_h (rd_sl (fun _=>rfl) gw rfl))) ?_|refine g_l rfl ?_)|(refine k_i ?_;refine g_i rfl rfl ?_)|(refine k_st ?_;refine g_sw rfl rfl rfl rfl (Nat.le_of_ble_eq_true rfl) ?_)|(refine k_al ?_;refine a_al ?_)|(refine k_bx ?_;refine a_bx rfl rfl ?_)|(refine k_c ?_;refine a_cq rfl (fun m hm=>l5bad_q) ?_))
   |refine a_n ?_
   |(refine k_V ?_;first|refine v_seq ?_|refine v_reg ?_|refine v_dreg ?_|refine v_ret ?_|(refine v_cd rfl (fun hb=>?_) (fun hb=>?_)<;>try(exfalso;omega)))
   |refine s_r ?_
   |refine sk_zero ?_
   |refine sk_succ ?_
   |refine wk_nil ?_
   |refine wk_cons ?_)
  all_goals exact fa_r (fun _ _=>rfl) (Pm.ent pmt) ⟨x,rfl,rfl,rfl⟩
 ·rw[if_neg c1]
  generalize hF:x.H.fitsH kc=F at*
  have key:∀z:HX,z.H=F→∃(wm:Int) (i:Nat) (u:CS),z.regs[ka]?=some ⟨2,wm,i⟩∧z.xs[i]?=some u∧F.getC i=u.c∧(F.getR ka).at_=i∧i<F.cells.length∧z.xs.length=F.cells.length∧z.regs.length=16:=by
   intro z hz
   have g16:z.regs.length=16:=by have:=f1.r1.regs;rw[←hz]at this;exact this
   obtain⟨v,gv⟩:∃w,z.regs[ka]?=some w:=⟨_,List.getElem?_eq_getElem (by omega)⟩
   have ev:F.getR ka=v:=by rw[←hz];exact getR_at gv
   obtain⟨_,s2⟩:=getR_ok f1 (r:=ka) (by omega) (by omega)
   rw[ev]at q1 s2⊢
   obtain⟨t0,t1,t2,t3⟩:=s2 q1
   obtain⟨i,hi⟩:=Int.eq_ofNat_of_zero_le t0
   obtain⟨vk,vn,vat⟩:=v
   dsimp only at q1 hi t1
   subst q1 hi
   have zl:=z.len
   rw[hz]at zl
   obtain⟨u,gu,gc'⟩:=HX.at (x:=z) (i:=i) (by omega)
   exact⟨vn,i,u,gv,gu,by rw[←hz];exact HX.gc gu,rfl,by omega,by omega,g16⟩
  by_cases c2:F.used+kc≤F.room
  ·rw[if_pos c2]
   repeat' (first
    |(refine k_L ?_;first|(refine k_ad ?_;refine g_ad rfl rfl ?_)|refine a_p rfl ?_|(refine k_l ?_;first|refine a_l rfl (by exact rd_t (rd_h (rd_sl (fun _=>rfl) gw rfl))) ?_|refine a_l rfl (by exact rd_t (rd_h (rd_sl (fun _=>rfl) gv rfl))) ?_|refine g_l rfl ?_)|(refine k_i ?_;refine g_i rfl rfl ?_)|(refine k_st ?_;refine g_sw rfl rfl rfl rfl (Nat.le_of_ble_eq_true rfl) ?_)|(refine k_al ?_;refine a_al ?_)|(refine k_bx ?_;refine a_bx rfl rfl ?_)|(refine k_c ?_;refine a_cq rfl (fun m hm=>l5bad_q) ?_)|(refine g_c rfl (l5room_a (x:=x) (u:=(kc:Int)) h (by omega)) (fun v As' hq=>?_);obtain⟨z,rfl,rfl,hz⟩:=hq;obtain⟨wm,i,u,gv,gu,gF,ei,hi,zl,z16⟩:=key z (by rw[hz,hF]);have znc:z.hdr.nc=z.xs.length:=rfl;have znr:z.hdr.nr=z.regs.length:=rfl))
    |refine a_n ?_
    |(refine k_V ?_;first|refine v_seq ?_|refine v_reg ?_|refine v_dreg ?_|refine v_ret ?_|refine v_skip ?_|(refine v_cd rfl (fun hb=>?_) (fun hb=>?_)<;>try(exfalso;omega))|(refine v_cnd rfl (fun hb=>?_) (fun hb=>?_)<;>try(exfalso;omega)))
    |refine s_n ?_
    |refine s_r ?_
    |refine sk_zero ?_
    |refine sk_succ ?_
    |refine wk_nil ?_
    |refine wk_cons ?_)
   ·exfalso;rw[hF]at hb;omega
   rw[hF]at hz
   have eL:u.c.pairs.length=y.c.pairs.length:=by rw[←gF,←ei];exact q2
   have i0:(F.getR ka).at_.toNat=i:=by omega
   rw[i0]
   refine v_blk ?_
   refine v_loop (fun q:Nat×HX=>[(0,.v (ptr a)),(3,.box [.int .i64 op,.int .i64 ka,.int .i64 kb,.int .i64 kc,.int .i64 n]),(4,.box [.int .i64 0,.int .i64 0]),(6,.v (.int .i64 i)),(7,.v (.int .i64 q.1))]) (fun q=>hp a q.2) (fun k q=>k=kc-q.1∧q.1≤kc∧q.2.H=F.addP i q.1) ⟨_,(0,z),⟨rfl,rfl,rfl,rfl,rfl,trivial⟩,Pm.ent pmt,rfl,Nat.zero_le _,by rw[hz];exact(addP_zero hi).symm⟩ ?_
   rintro k ⟨m,s⟩ ⟨rfl,hm,hs⟩
   simp only at hm hs
   dsimp only
   have sl:s.xs.length=F.cells.length:=by rw[←s.len,hs,addP_len]
   have snc:s.hdr.nc=s.xs.length:=rfl
   obtain⟨v,gs,gsc⟩:=HX.at (x:=s) (i:=i) (by omega)
   have gsk:=HX.gc gs
   rw[hs,addP_get hi]at gsk
   have evl:v.c.pairs.length=y.c.pairs.length+m:=by rw[←gsk];simp[gF,eL]
   by_cases hmk:m<kc
   ·repeat' (first
     |(refine k_L ?_;refine a_p rfl ?_)
     |refine a_n ?_
     |(refine k_V ?_;first|refine v_seq ?_|refine v_reg ?_|refine v_skip ?_|(refine v_cd rfl (fun hb=>?_) (fun hb=>?_)<;>try(exfalso;omega))))
    refine v_blk ?_
    refine VA.ent (Bs:=[slA 6 pv v.d v.c.pairs,prA (s.xs.eraseIdx i),slA 3 wv s.rd s.regs,slA 1 iv s.gd s.gray,hdA a s.hdr,slA 8 csv s.cd s.xs]) ?_ ?_
    ·exact((Pm.ent (As1:=[clA s.cd s.xs,slA 3 wv s.rd s.regs,slA 1 iv s.gd s.gray,hdA a s.hdr]) pmt).trans (cl_split gs)).trans (Pm.ent pmt)
    refine v_hreg (Gs:=[slA 6 pv v.d v.c.pairs,prA (s.xs.eraseIdx i),slA 3 wv s.rd s.regs,slA 1 iv s.gd s.gray]) [hdA a s.hdr,slA 8 csv s.cd s.xs] ⟨fun m hm=>hm⟩ ?_
    repeat' (first
     |(refine k_L ?_;first|refine a_p rfl ?_|(refine k_l ?_;first|refine a_l rfl (by exact rd_t (rd_h (rd_sl (fun _=>rfl) gs rfl))) ?_|refine g_l rfl ?_)|(refine k_i ?_;refine g_i rfl rfl ?_)|(refine k_bl ?_;refine a_bl rfl ?_))
     |refine a_n ?_
     |refine t_a ?_ t_n
     |refine kl_1 rfl ?_
     |refine kl_0 ?_)
    refine g_ap (xs:=v.c.pairs) (e:=v.d) Pair.no pv_len rfl rfl rfl (by omega) (hb:=by omega) (fun e'=>?_)
    repeat' (first
     |(refine k_L ?_;first|refine a_p rfl ?_|(refine k_i ?_;refine g_i rfl rfl ?_))
     |refine a_n ?_
     |refine t_f ?_ t_n
     |refine kl_1 rfl ?_
     |refine kl_0 ?_)
    refine a_st rfl rfl rfl rfl (up_t (up_t (up_t (up_t (up_t (up_h (up_sl (j:=7) (e':=(⟨{v.c with pairs:=v.c.pairs++[Pair.no]},e'.a,e'.cap⟩:CS)) csv_len gs (by simp[Value.cells]) rfl))))))) ?_
    repeat' (first
     |(refine k_L ?_;first|(refine k_ad ?_;refine g_ad rfl rfl ?_)|refine a_p rfl ?_)
     |refine a_n ?_
     |(refine k_V ?_;refine v_reg ?_)
     |refine s_n ?_
     |refine t_d ?_)
    refine⟨_,(m+1,{s with xs:=s.xs.set i (⟨{v.c with pairs:=v.c.pairs++[Pair.no]},e'.a,e'.cap⟩:CS)}),?_,⟨rfl,rfl,rfl,rfl,rfl,trivial⟩,?_,rfl,hmk,?_⟩
    ·show kc-(m+1)<kc-m
     omega
    ·refine((Pm.ent (As1:=[slA 8 csv s.cd (s.xs.set i (⟨{v.c with pairs:=v.c.pairs++[Pair.no]},e'.a,e'.cap⟩:CS)),slA 6 pv e' (v.c.pairs++[Pair.no]),prA (s.xs.eraseIdx i),slA 3 wv s.rd s.regs,slA 1 iv s.gd s.gray,hdA a s.hdr]) pmt).trans (cl_join (y':=(⟨{v.c with pairs:=v.c.pairs++[Pair.no]},e'.a,e'.cap⟩:CS)) (by omega))).trans (Pm.ent (fin ({s with xs:=s.xs.set i (⟨{v.c with pairs:=v.c.pairs++[Pair.no]},e'.a,e'.cap⟩:CS)}:HX) (e1:=by simp[HX.hdr])))
    ·show HX.H {s with xs:=s.xs.set i (⟨{v.c with pairs:=v.c.pairs++[Pair.no]},e'.a,e'.cap⟩:CS)}=F.addP i (m+1)
     have:=addP_succ (K:=F) (i:=i) (n:=m) hi
     rw[←this,←hs,HX.gc gs]
     unfold HX.H
     simp only[List.map_set]
   ·have em:m=kc:=by omega
    subst em
    have hsu:s.H.used=F.used:=by rw[hs];rfl
    have su:=hsu
    have e1:s.hdr.used=s.H.used:=rfl
    have ub:=f1.r3
    have un:=unitsN_nn F.cells
    have rb:=f1.r1.room
    unfold R3 at ub
    repeat' (first
     |(refine k_L ?_;first|(refine k_ad ?_;refine g_ad rfl rfl ?_)|refine a_p rfl ?_|(refine k_l ?_;refine g_l rfl ?_)|(refine k_st ?_;refine g_st rfl rfl rfl rfl ?_))
     |refine a_n ?_
     |(refine k_V ?_;first|refine v_seq ?_|refine v_reg ?_|refine v_dreg ?_|refine v_exit ?_|(refine v_cd rfl (fun hb=>?_) (fun hb=>?_)<;>try(exfalso;omega))))
    have zS:Sound (HX.H {s with used:=s.used+m}):=by
     have:HX.H {s with used:=s.used+m}=F.growC i m:=by
      rw[growC_add,←hs,←hsu];rfl
     rw[this]
     refine grow_sound f1 hi ?_ ?_ c2
     ·obtain⟨_,s2⟩:=getR_ok f1 (r:=ka) (by omega) (by omega)
      rw[ei]at s2
      exact(s2 q1).2.2.1
     ·rw[gF,eL];omega
    refine LA.ent (Pm.ent (fin ({s with used:=s.used+m}:HX))) ?_
    refine g_c rfl (l5pace_a (x:={s with used:=s.used+m}) (u:=(m:Int)) zS (by omega)) (fun v' As' hq=>?_)
    obtain⟨r,rfl,hr⟩:=hq
    repeat' (first
     |(refine k_L ?_;first|(refine k_st ?_;refine g_sw rfl rfl rfl rfl (Nat.le_of_ble_eq_true rfl) ?_)|(refine k_c ?_;refine a_cq rfl (fun m hm=>l5fine_q) ?_))
     |refine a_n ?_
     |(refine k_V ?_;first|refine v_seq ?_|refine v_reg ?_|refine v_ret ?_)
     |refine sk_zero ?_
     |refine sk_succ ?_
     |refine wk_nil ?_
     |refine wk_cons ?_)
    exact fa_r (fun _ _=>rfl) (Pm.ent pmt) ⟨r,rfl,rfl,by rw[hr];congr 1;rw[Int.toNat_natCast,growC_add,←hs,←hsu];rfl⟩
  ·rw[if_neg c2]
   repeat' (first
    |(refine k_L ?_;first|(refine k_ad ?_;refine g_ad rfl rfl ?_)|refine a_p rfl ?_|(refine k_l ?_;first|refine a_l rfl (by exact rd_t (rd_h (rd_sl (fun _=>rfl) gw rfl))) ?_|refine g_l rfl ?_)|(refine k_i ?_;refine g_i rfl rfl ?_)|(refine k_st ?_;refine g_sw rfl rfl rfl rfl (Nat.le_of_ble_eq_true rfl) ?_)|(refine k_al ?_;refine a_al ?_)|(refine k_bx ?_;refine a_bx rfl rfl ?_)|(refine k_c ?_;refine a_cq rfl (fun m hm=>l5bad_q) ?_)|(refine g_c rfl (l5room_a (x:=x) (u:=(kc:Int)) h (by omega)) (fun v As' hq=>?_);obtain⟨z,rfl,rfl,hz⟩:=hq))
    |refine a_n ?_
    |(refine k_V ?_;first|refine v_seq ?_|refine v_reg ?_|refine v_dreg ?_|refine v_ret ?_|refine v_skip ?_|(refine v_cd rfl (fun hb=>?_) (fun hb=>?_)<;>try(exfalso;omega))|(refine v_cnd rfl (fun hb=>?_) (fun hb=>?_)<;>try(exfalso;omega)))
    |refine s_r ?_
    |refine sk_zero ?_
    |refine sk_succ ?_
    |refine wk_nil ?_
    |refine wk_cons ?_)
   all_goals first
    |(exfalso;rw[hF]at hb;omega)
    |exact fa_r (fun _ _=>rfl) (Pm.ent pmt) ⟨z,rfl,rfl,by rw[hz,hF]⟩
theorem v_via{E:Env}{a:C}{K:St→List Asr→Prop}{Q:X→St→List Asr→Prop}{S:St}{As:List Asr}(J:St→List Asr→Prop)(h:VA E a (seqA J Q) S As)(h2:∀S As,J S As→K S As):VA E a (seqA K Q) S As:=
 v_mono h fun x S As hq=>by cases x<;>first|exact h2 _ _ hq|exact hq
theorem frG_born{H:Heap}{b:Int}:∀k:Nat,frG {H with born:=b} k=frG H k
 |0=>rfl
 |k+1=>by
  simp only[frG]
  rw[frG_born k]
  rfl
def HX.bn(x:HX):HX:={x with born:=x.born+1}
theorem l5make_a{a:Nat}{x:HX}{op n:Int}{ka kb kc:Nat}(h:Sound x.H)(ha:ka≤15)(hb:kb≤255)(hc:kc≤200):FnA Tryz.prog 135 [ptr a,.agg #[.int .i64 op,.int .i64 ka,.int .i64 kb,.int .i64 kc,.int .i64 n]] (hp a x) (fun v As=>∃z:HX,v=an (doNew x.H ⟨op,ka,kb,kc,n⟩).code (doNew x.H ⟨op,ka,kb,kc,n⟩).num∧As=hp a z∧z.H=(doNew x.H ⟨op,ka,kb,kc,n⟩).heap):=by
 have hl:=x.len
 have e1:x.hdr.born=x.H.born:=rfl
 refine fnA_of (fun h=>fn135 (by simp) h) ?_
 obtain⟨f1,f2,f3,f4,f5,f6,f7⟩:=fits_ok h (1+kc)
 unfold doNew
 dsimp only
 by_cases c0:x.H.born=1000000000
 ·rw[if_pos c0]
  repeat' (first
   |(refine k_L ?_;first|(refine k_ad ?_;refine g_ad rfl rfl ?_)|refine a_p rfl ?_|(refine k_g ?_;first|refine a_gn rfl rfl ?_|(refine a_gd rfl (fun hb=>?_) (fun hb=>?_)<;>try(exfalso;omega)))|(refine k_l ?_;refine g_l rfl ?_)|(refine k_st ?_;refine g_sw rfl rfl rfl rfl (Nat.le_of_ble_eq_true rfl) ?_)|(refine k_al ?_;refine a_al ?_)|(refine k_bx ?_;refine a_bx rfl rfl ?_)|(refine k_c ?_;refine a_cq rfl (fun m hm=>l5bad_q) ?_))
   |refine a_n ?_
   |(refine k_V ?_;first|refine v_seq ?_|refine v_reg ?_|refine v_ret ?_|refine v_ct rfl ?_)
   |refine s_r ?_
   |refine sk_zero ?_
   |refine sk_succ ?_
   |refine wk_nil ?_
   |refine wk_cons ?_)
  all_goals exact fa_r (fun _ _=>rfl) (Pm.ent pmt) ⟨x,rfl,rfl,rfl⟩
 ·rw[if_neg c0]
  generalize hF:x.H.fitsH (1+kc)=F at*
  have hbn:=f1.r1.born
  by_cases c2:F.used+(1+kc)≤F.room
  ·rw[if_pos c2]
   repeat' (first
    |(refine k_L ?_;first|(refine k_ad ?_;refine g_ad rfl rfl ?_)|refine a_p rfl ?_|(refine k_g ?_;first|refine a_gy rfl rfl ?_|(refine a_gd rfl (fun hb=>?_) (fun hb=>?_)<;>try(exfalso;omega)))|(refine k_l ?_;refine g_l rfl ?_)|(refine k_st ?_;first|refine g_st rfl rfl rfl rfl ?_|refine g_sw rfl rfl rfl rfl (Nat.le_of_ble_eq_true rfl) ?_)|(refine k_al ?_;refine a_al ?_)|(refine k_bx ?_;refine a_bx rfl rfl ?_)|(refine k_c ?_;refine a_cq rfl (fun m hm=>l5bad_q) ?_)|(refine g_c rfl (l5room_a (x:=x) (u:=1+(kc:Int)) h (by omega)) (fun v As' hq=>?_);obtain⟨z,rfl,rfl,hz⟩:=hq;rw[hF]at hz;have zb:z.hdr.born=F.born:=congrArg Heap.born hz))
    |refine a_n ?_
    |(refine k_V ?_;first|refine v_seq ?_|refine v_reg ?_|refine v_ret ?_|refine v_skip ?_|(refine v_cnd rfl (fun hb=>?_) (fun hb=>?_)<;>try(exfalso;omega)))
    |refine s_r ?_
    |refine sk_zero ?_
    |refine sk_succ ?_
    |refine wk_nil ?_
    |refine wk_cons ?_)
   ·exfalso;rw[hF]at hb;omega
   subst hz
   have zl:=z.len
   have z16:z.regs.length=16:=f1.r1.regs
   have g3:=f1.r1.cells
   have g2:=f1.r1.room
   have ub:=f1.r3
   have un:=unitsN_nn z.H.cells
   unfold R3 at ub
   refine VA.ent (Pm.ent (fin z.bn)) ?_
   refine v_via (fun S As=>∃g:D,leA [(0,.v (ptr a)),(3,.box [.int .i64 op,.int .i64 ka,.int .i64 kb,.int .i64 kc,.int .i64 n]),(4,.box [.int .i64 0,.int .i64 0]),(5,.v (.int .i64 (1+kc))),(6,.box [.int .i64 1,.int .i64 kb,.int .i64 0,.int .i64 0,.int .i64 (z.born+1),.int .i64 0,.int .i64 0,.slice g.a (List.replicate kc Pair.no).length g.cap])] S∧Ent As (slA 6 pv g (List.replicate kc Pair.no)::hp a z.bn)) ?_ ?_
   ·refine v_hreg (Gs:=[slA 3 wv z.bn.rd z.bn.regs,clA z.bn.cd z.bn.xs,slA 1 iv z.bn.gd z.bn.gray]) [hdA a z.bn.hdr] pmt ?_
    repeat' (first
     |(refine k_L ?_;first|refine a_p rfl ?_|(refine k_l ?_;refine g_l rfl ?_)|(refine k_st ?_;refine g_sw rfl rfl rfl rfl (Nat.le_of_ble_eq_true rfl) ?_)|(refine k_al ?_;refine a_al ?_)|(refine a_mk (f:=pv) (n:=(kc:Int)) (k:=(kc:Int)) Pair.no pv_len rfl rfl rfl (by omega) (by omega) (fun g hg=>?_)))
     |refine a_n ?_
     |refine s_n ?_
     |refine sk_zero ?_
     |refine sk_succ ?_
     |refine wk_nil ?_
     |refine wk_cons ?_
     |refine t_a ?_ t_n
     |refine t_f ?_ t_n
     |refine t_a ?_ ?_
     |refine t_d ?_
     |refine kl_1 rfl ?_
     |refine kl_0 ?_)
    all_goals exact⟨g,⟨rfl,rfl,rfl,rfl,(by rw[List.length_replicate];rfl),trivial⟩,Pm.ent pmt⟩
   rintro S As ⟨g,hS,hE⟩
   refine VA.ent hE (v_weak _ hS ?_)
   clear hS hE S As
   have hfr:frG z.bn.H z.bn.xs.length=frG z.H z.H.cells.length:=by rw[zl];exact frG_born (H:=z.H) (b:=z.born+1) _
   obtain⟨p0,p1,p2,p3⟩:=frG_ok z.H z.H.cells.length
   obtain⟨j,hj⟩:=Int.eq_ofNat_of_zero_le p0
   have ef:frG z.bn.H z.bn.xs.length=j:=hfr.trans hj
   have xph:z.bn.hdr.phase=z.H.phase:=rfl
   have xha:z.bn.hdr.hand=z.H.hand:=rfl
   have xnc:z.bn.hdr.nc=z.xs.length:=rfl
   have xnr:z.bn.hdr.nr=z.regs.length:=rfl
   have xus:z.bn.hdr.used=z.H.used:=rfl
   have xxs:z.bn.xs.length=z.xs.length:=rfl
   have hmk:Marking z.bn.H↔Marking z.H:=Iff.rfl
   refine v_seq (v_reg ?_)
   repeat' (first
    |(refine k_L ?_;first|refine a_p rfl ?_|(refine k_c ?_;refine a_cq rfl (fun m hm=>qt_e (l3free_q (x:=z.bn) (sep_has hm pmt)) (by rw[ef])) ?_))
    |refine a_n ?_
    |refine s_n ?_)
   refine v_seq (v_via (fun S As=>leA [(0,.v (ptr a)),(3,.box [.int .i64 op,.int .i64 ka,.int .i64 kb,.int .i64 kc,.int .i64 n]),(4,.box [.int .i64 0,.int .i64 0]),(5,.v (.int .i64 (1+kc))),(6,.box [.int .i64 1,.int .i64 kb,.int .i64 0,.int .i64 0,.int .i64 (z.born+1),.int .i64 (newCol z.H j),.int .i64 0,.slice g.a (List.replicate kc Pair.no).length g.cap]),(7,.v (.int .i64 j))] S∧Ent As (slA 6 pv g (List.replicate kc Pair.no)::hp a z.bn)) ?_ ?_)
   ·repeat' (first
     |(refine k_L ?_;first|refine a_p rfl ?_|(refine k_g ?_;first|refine a_gy rfl rfl ?_|refine a_gn rfl rfl ?_|refine a_gu rfl ?_|(refine a_gd rfl (fun hb=>?_) (fun hb=>?_)<;>try(exfalso;omega)))|(refine k_l ?_;refine g_l rfl ?_)|(refine k_st ?_;refine g_sw rfl rfl rfl rfl (Nat.le_of_ble_eq_true rfl) ?_)|(refine k_c ?_;refine a_cq rfl (fun m hm=>l3marking_q (x:=z.bn) (sep_has hm pmt)) ?_))
     |refine a_n ?_
     |(refine k_V ?_;first|refine v_seq ?_|refine v_reg ?_|refine v_skip ?_|refine v_ct rfl ?_|refine v_cf rfl ?_|(refine v_cd rfl (fun hb=>?_) (fun hb=>?_)<;>try(exfalso;omega)))
     |refine s_n ?_
     |refine sk_zero ?_
     |refine sk_succ ?_
     |refine wk_nil ?_
     |refine wk_cons ?_)
    all_goals refine⟨⟨rfl,rfl,rfl,rfl,?_,rfl,trivial⟩,Pm.ent pmt⟩
    all_goals first
     |(rw[show newCol z.H j=2 by unfold newCol;rw[if_pos];unfold Marking at*;omega];rfl)
     |(rw[show newCol z.H j=0 by unfold newCol;rw[if_neg];unfold Marking at*;omega];rfl)
   rintro S As ⟨hS,hE⟩
   refine VA.ent hE (v_weak _ hS ?_)
   clear hS hE S As
   generalize hy:(⟨Cell.fresh kb (z.born+1) (newCol z.H j) kc,g.a,g.cap⟩:CS)=yn
   obtain⟨w,gw⟩:∃w,z.bn.regs[ka]?=some w:=⟨_,List.getElem?_eq_getElem (by show ka<z.regs.length;omega)⟩
   have hsl:slA 6 pv g (List.replicate kc Pair.no)=slA 6 pv yn.d yn.c.pairs:=by rw[←hy];rfl
   have hcol:0≤newCol z.H j:=by unfold newCol;split<;>omega
   by_cases hje:j=z.xs.length
   ·have hH:HX.H {z.bn with xs:=z.xs++[yn],used:=z.used+(1+kc),regs:=z.regs.set ka ⟨2,0,j⟩}=z.H.newH (ka:Int).toNat kb (kc:Int).toNat:=by
     unfold Heap.newH
     rw[hj,Int.toNat_natCast,Int.toNat_natCast,Int.toNat_natCast]
     unfold addC
     rw[if_pos (by rw[zl];exact hje),←hy]
     unfold HX.H HX.bn
     simp only[List.map_append,List.map_cons,List.map_nil,Heap.mk.injEq,true_and,and_true]
     omega
    repeat' (first
     |(refine k_L ?_;first|refine a_p rfl ?_|(refine k_l ?_;refine g_l rfl ?_)|(refine k_bl ?_;refine a_bl rfl ?_))
     |refine a_n ?_
     |(refine k_V ?_;first|refine v_seq ?_|refine v_reg ?_|refine v_dreg ?_|(refine v_cd rfl (fun hb=>?_) (fun hb=>?_)<;>try(exfalso;omega))))
    refine LA.ent (Bs:=[slA 8 csv z.bn.cd z.bn.xs,prA z.bn.xs,slA 6 pv g (List.replicate kc Pair.no),hdA a z.bn.hdr,slA 3 wv z.bn.rd z.bn.regs,slA 1 iv z.bn.gd z.bn.gray]) ?_ ?_
    ·exact(Pm.ent (As1:=[clA z.bn.cd z.bn.xs,slA 6 pv g (List.replicate kc Pair.no),hdA a z.bn.hdr,slA 3 wv z.bn.rd z.bn.regs,slA 1 iv z.bn.gd z.bn.gray]) pmt).trans (cl_open.trans (Pm.ent pmt))
    refine g_ap yn csv_len rfl rfl (by rw[←hy];rfl) (by omega) (hb:=by omega) (fun cd'=>?_)
    repeat' (first
     |(refine k_L ?_;first|(refine k_ad ?_;refine g_ad rfl rfl ?_)|(refine k_l ?_;refine g_l rfl ?_)|(refine k_i ?_;refine g_i rfl rfl ?_)|(refine k_st ?_;refine g_st rfl rfl rfl rfl ?_)|(refine b_w ⟨2,0,j⟩ rfl ?_)|(refine b_p rfl ?_))
     |refine a_n ?_
     |(refine k_V ?_;first|refine v_seq ?_|refine v_reg ?_|refine v_dreg ?_))
    refine LA.ent (Bs:=hp a ({z.bn with xs:=z.xs++[yn],cd:=cd',used:=z.used+(1+kc),regs:=z.regs.set ka ⟨2,0,j⟩}:HX)) ?_ ?_
    ·rw[hsl]
     refine((Pm.ent (As1:=[slA 8 csv cd' (z.xs++[yn]),prA z.xs,slA 6 pv yn.d yn.c.pairs,hdA a _,slA 3 wv z.rd (z.regs.set ka ⟨2,0,j⟩),slA 1 iv z.gd z.gray]) pmt).trans (cl_snoc (y:=yn))).trans (Pm.ent (fin ({z.bn with xs:=z.xs++[yn],cd:=cd',used:=z.used+(1+kc),regs:=z.regs.set ka ⟨2,0,j⟩}:HX) (h1:=by simp[HX.hdr,Hdr.s_room,Hdr.s_used,Hdr.s_born,Hdr.s_phase,Hdr.s_hand,Hdr.s_sub,Hdr.s_per,Hdr.s_start,Hdr.s_rounds,Hdr.s_forced,Hdr.s_rd,Hdr.s_cd,Hdr.s_gd,HX.bn]) (h2:=by simp[HX.hdr,Hdr.s_room,Hdr.s_used,Hdr.s_born,Hdr.s_phase,Hdr.s_hand,Hdr.s_sub,Hdr.s_per,Hdr.s_start,Hdr.s_rounds,Hdr.s_forced,Hdr.s_rd,Hdr.s_cd,Hdr.s_gd,HX.bn]) (e1:=by simp[HX.hdr,Hdr.s_room,Hdr.s_used,Hdr.s_born,Hdr.s_phase,Hdr.s_hand,Hdr.s_sub,Hdr.s_per,Hdr.s_start,Hdr.s_rounds,Hdr.s_forced,Hdr.s_rd,Hdr.s_cd,Hdr.s_gd,HX.bn])))
    refine g_c rfl (l5pace_a (x:=({z.bn with xs:=z.xs++[yn],cd:=cd',used:=z.used+(1+kc),regs:=z.regs.set ka ⟨2,0,j⟩}:HX)) (u:=1+(kc:Int)) (by show Sound (HX.H {z.bn with xs:=z.xs++[yn],used:=z.used+(1+kc),regs:=z.regs.set ka ⟨2,0,j⟩});rw[hH];exact new_sound f1 (by omega) (by omega) (by omega) (by omega)) (by omega)) (fun v' As' hq=>?_)
    obtain⟨r,rfl,hr⟩:=hq
    repeat' (first
     |(refine k_L ?_;first|(refine k_st ?_;refine g_sw rfl rfl rfl rfl (Nat.le_of_ble_eq_true rfl) ?_)|(refine k_c ?_;refine a_cq rfl (fun m hm=>l5fine_q) ?_))
     |refine a_n ?_
     |(refine k_V ?_;first|refine v_seq ?_|refine v_reg ?_|refine v_ret ?_)
     |refine sk_zero ?_
     |refine sk_succ ?_
     |refine wk_nil ?_
     |refine wk_cons ?_)
    exact fa_r (fun _ _=>rfl) (Pm.ent pmt) ⟨r,rfl,rfl,by rw[hr];exact congrArg (fun K=>K.paceH (1+(kc:Int))) hH⟩
   ·obtain⟨y0,gy0,gc0⟩:=HX.at (x:=z) (i:=j) (by omega)
    have gy0':z.bn.xs[j]?=some y0:=gy0
    have hH:HX.H {z.bn with xs:=z.xs.set j yn,used:=z.used+(1+kc),regs:=z.regs.set ka ⟨2,0,j⟩}=z.H.newH (ka:Int).toNat kb (kc:Int).toNat:=by
     unfold Heap.newH
     rw[hj,Int.toNat_natCast,Int.toNat_natCast,Int.toNat_natCast]
     unfold addC
     rw[if_neg (by rw[zl];exact hje),←hy]
     unfold HX.H HX.bn
     simp only[List.map_set,Heap.mk.injEq,true_and,and_true]
     omega
    repeat' (first
     |(refine k_L ?_;first|refine a_p rfl ?_|(refine k_l ?_;refine g_l rfl ?_)|(refine k_i ?_;refine g_i rfl rfl ?_))
     |refine a_n ?_
     |(refine k_V ?_;first|refine v_seq ?_|refine v_reg ?_|refine v_dreg ?_|(refine v_cd rfl (fun hb=>?_) (fun hb=>?_)<;>try(exfalso;omega))))
    refine LA.ent (Bs:=[slA 8 csv z.bn.cd z.bn.xs,slA 6 pv y0.d y0.c.pairs,prA (z.bn.xs.eraseIdx j),slA 6 pv g (List.replicate kc Pair.no),hdA a z.bn.hdr,slA 3 wv z.bn.rd z.bn.regs,slA 1 iv z.bn.gd z.bn.gray]) ?_ ?_
    ·exact(Pm.ent (As1:=[clA z.bn.cd z.bn.xs,slA 6 pv g (List.replicate kc Pair.no),hdA a z.bn.hdr,slA 3 wv z.bn.rd z.bn.regs,slA 1 iv z.bn.gd z.bn.gray]) pmt).trans ((cl_split gy0').trans (Pm.ent pmt))
    refine a_st rfl rfl rfl rfl (up_h (up_sl (j:=0) (e':=yn) csv_len gy0' (by simp[Value.cells]) (by rw[←hy];rfl))) ?_
    repeat' (first
     |(refine k_L ?_;first|(refine k_ad ?_;refine g_ad rfl rfl ?_)|(refine k_l ?_;refine g_l rfl ?_)|(refine k_i ?_;refine g_i rfl rfl ?_)|(refine k_st ?_;refine g_st rfl rfl rfl rfl ?_)|(refine b_w ⟨2,0,j⟩ rfl ?_)|(refine b_p rfl ?_))
     |refine a_n ?_
     |(refine k_V ?_;first|refine v_seq ?_|refine v_reg ?_|refine v_dreg ?_))
    refine LA.ent (Bs:=hp a ({z.bn with xs:=z.xs.set j yn,used:=z.used+(1+kc),regs:=z.regs.set ka ⟨2,0,j⟩}:HX)) ?_ ?_
    ·rw[hsl]
     refine((Pm.ent (As1:=[slA 8 csv z.cd (z.xs.set j yn),slA 6 pv yn.d yn.c.pairs,prA (z.xs.eraseIdx j),hdA a _,slA 3 wv z.rd (z.regs.set ka ⟨2,0,j⟩),slA 1 iv z.gd z.gray]) pmt).trans (cl_join (y':=yn) (by omega))).trans (Pm.ent (fin ({z.bn with xs:=z.xs.set j yn,used:=z.used+(1+kc),regs:=z.regs.set ka ⟨2,0,j⟩}:HX) (h1:=by simp[HX.hdr,Hdr.s_room,Hdr.s_used,Hdr.s_born,Hdr.s_phase,Hdr.s_hand,Hdr.s_sub,Hdr.s_per,Hdr.s_start,Hdr.s_rounds,Hdr.s_forced,Hdr.s_rd,Hdr.s_cd,Hdr.s_gd,HX.bn]) (h2:=by simp[HX.hdr,Hdr.s_room,Hdr.s_used,Hdr.s_born,Hdr.s_phase,Hdr.s_hand,Hdr.s_sub,Hdr.s_per,Hdr.s_start,Hdr.s_rounds,Hdr.s_forced,Hdr.s_rd,Hdr.s_cd,Hdr.s_gd,HX.bn]) (e1:=by simp[HX.hdr,Hdr.s_room,Hdr.s_used,Hdr.s_born,Hdr.s_phase,Hdr.s_hand,Hdr.s_sub,Hdr.s_per,Hdr.s_start,Hdr.s_rounds,Hdr.s_forced,Hdr.s_rd,Hdr.s_cd,Hdr.s_gd,HX.bn])))
    refine g_c rfl (l5pace_a (x:=({z.bn with xs:=z.xs.set j yn,used:=z.used+(1+kc),regs:=z.regs.set ka ⟨2,0,j⟩}:HX)) (u:=1+(kc:Int)) (by show Sound (HX.H {z.bn with xs:=z.xs.set j yn,used:=z.used+(1+kc),regs:=z.regs.set ka ⟨2,0,j⟩});rw[hH];exact new_sound f1 (by omega) (by omega) (by omega) (by omega)) (by omega)) (fun v' As' hq=>?_)
    obtain⟨r,rfl,hr⟩:=hq
    repeat' (first
     |(refine k_L ?_;first|(refine k_st ?_;refine g_sw rfl rfl rfl rfl (Nat.le_of_ble_eq_true rfl) ?_)|(refine k_c ?_;refine a_cq rfl (fun m hm=>l5fine_q) ?_))
     |refine a_n ?_
     |(refine k_V ?_;first|refine v_seq ?_|refine v_reg ?_|refine v_ret ?_)
     |refine sk_zero ?_
     |refine sk_succ ?_
     |refine wk_nil ?_
     |refine wk_cons ?_)
    exact fa_r (fun _ _=>rfl) (Pm.ent pmt) ⟨r,rfl,rfl,by rw[hr];exact congrArg (fun K=>K.paceH (1+(kc:Int))) hH⟩
  ·rw[if_neg c2]
   repeat' (first
    |(refine k_L ?_;first|(refine k_ad ?_;refine g_ad rfl rfl ?_)|refine a_p rfl ?_|(refine k_g ?_;first|refine a_gy rfl rfl ?_|(refine a_gd rfl (fun hb=>?_) (fun hb=>?_)<;>try(exfalso;omega)))|(refine k_l ?_;refine g_l rfl ?_)|(refine k_st ?_;first|refine g_st rfl rfl rfl rfl ?_|refine g_sw rfl rfl rfl rfl (Nat.le_of_ble_eq_true rfl) ?_)|(refine k_al ?_;refine a_al ?_)|(refine k_bx ?_;refine a_bx rfl rfl ?_)|(refine k_c ?_;refine a_cq rfl (fun m hm=>l5bad_q) ?_)|(refine g_c rfl (l5room_a (x:=x) (u:=1+(kc:Int)) h (by omega)) (fun v As' hq=>?_);obtain⟨z,rfl,rfl,hz⟩:=hq))
    |refine a_n ?_
    |(refine k_V ?_;first|refine v_seq ?_|refine v_reg ?_|refine v_ret ?_|refine v_skip ?_|(refine v_cnd rfl (fun hb=>?_) (fun hb=>?_)<;>try(exfalso;omega)))
    |refine s_r ?_
    |refine sk_zero ?_
    |refine sk_succ ?_
    |refine wk_nil ?_
    |refine wk_cons ?_)
   all_goals first
    |(exfalso;rw[hF]at hb;omega)
    |exact fa_r (fun _ _=>rfl) (Pm.ent pmt) ⟨z,rfl,rfl,by rw[hz,hF]⟩
    |trace_state
theorem actOk_t{m:Mem}{b:Act}(h:ActP b):Qt Tryz.prog 133 [actV b] m (.bool true):=qt_e specActOk_q (congrArg Value.bool (decide_eq_true h))
theorem do_1{a:Nat}{x:HX}{n:Int}{ka kb kc:Nat}(h:Sound x.H)(hP:ActP ⟨1,ka,kb,kc,n⟩):FnA Tryz.prog 130 [ptr a,.agg #[.int .i64 1,.int .i64 ka,.int .i64 kb,.int .i64 kc,.int .i64 n]] (hp a x) (fun v As=>∃z:HX,v=an (doNew x.H ⟨1,ka,kb,kc,n⟩).code (doNew x.H ⟨1,ka,kb,kc,n⟩).num∧As=hp a z∧z.H=(doNew x.H ⟨1,ka,kb,kc,n⟩).heap):=by
 have hQ:=hP
 simp[ActP,aMost,bMost,cMost]at hQ
 refine fnA_of (fun h=>fn130 (by simp) h) ?_
 repeat' (first
  |(refine k_L ?_;first|refine a_p rfl ?_|(refine k_st ?_;refine g_sw rfl rfl rfl rfl (Nat.le_of_ble_eq_true rfl) ?_)|(refine k_al ?_;refine a_al ?_)|(refine k_bx ?_;refine a_bx rfl rfl ?_)|(refine k_c ?_;refine a_cq rfl (fun m hm=>actOk_t (b:=⟨1,ka,kb,kc,n⟩) hP) ?_)|(refine g_c rfl (l5make_a (x:=x) (op:=1) (n:=n) (ka:=ka) (kb:=kb) (kc:=kc) h (by omega) (by omega) (by omega)) (fun v As' hq=>?_);obtain⟨z,rfl,rfl,hz⟩:=hq))
  |refine a_n ?_
  |(refine k_V ?_;first|refine v_seq ?_|refine v_reg ?_|refine v_bs ?_|refine v_ret ?_|refine v_skip ?_|refine v_ct rfl ?_|refine v_cf rfl ?_)
  |refine s_r ?_
  |refine b_r ?_
  |refine sk_zero ?_
  |refine sk_succ ?_
  |refine wk_nil ?_
  |refine wk_cons ?_)
 all_goals exact fa_r (fun _ _=>rfl) (Pm.ent pmt) ⟨z,rfl,rfl,hz⟩
theorem do_5{a:Nat}{x:HX}{n:Int}{ka kb kc:Nat}(h:Sound x.H)(hP:ActP ⟨5,ka,kb,kc,n⟩):FnA Tryz.prog 130 [ptr a,.agg #[.int .i64 5,.int .i64 ka,.int .i64 kb,.int .i64 kc,.int .i64 n]] (hp a x) (fun v As=>∃z:HX,v=an (doPair x.H ⟨5,ka,kb,kc,n⟩).code (doPair x.H ⟨5,ka,kb,kc,n⟩).num∧As=hp a z∧z.H=(doPair x.H ⟨5,ka,kb,kc,n⟩).heap):=by
 have hQ:=hP
 simp[ActP,aMost,bMost,cMost]at hQ
 refine fnA_of (fun h=>fn130 (by simp) h) ?_
 repeat' (first
  |(refine k_L ?_;first|refine a_p rfl ?_|(refine k_st ?_;refine g_sw rfl rfl rfl rfl (Nat.le_of_ble_eq_true rfl) ?_)|(refine k_al ?_;refine a_al ?_)|(refine k_bx ?_;refine a_bx rfl rfl ?_)|(refine k_c ?_;refine a_cq rfl (fun m hm=>actOk_t (b:=⟨5,ka,kb,kc,n⟩) hP) ?_)|(refine g_c rfl (l5pair_rd (x:=x) (op:=5) (n:=n) (ka:=ka) (kb:=kb) (kc:=kc) h (by omega) (by omega) (by omega)) (fun v As' hq=>?_);obtain⟨z,rfl,rfl,hz⟩:=hq))
  |refine a_n ?_
  |(refine k_V ?_;first|refine v_seq ?_|refine v_reg ?_|refine v_bs ?_|refine v_ret ?_|refine v_skip ?_|refine v_ct rfl ?_|refine v_cf rfl ?_)
  |refine s_r ?_
  |refine b_r ?_
  |refine sk_zero ?_
  |refine sk_succ ?_
  |refine wk_nil ?_
  |refine wk_cons ?_)
 all_goals exact fa_r (fun _ _=>rfl) (Pm.ent pmt) ⟨z,rfl,rfl,hz⟩
theorem do_6{a:Nat}{x:HX}{n:Int}{ka kb kc:Nat}(h:Sound x.H)(hP:ActP ⟨6,ka,kb,kc,n⟩):FnA Tryz.prog 130 [ptr a,.agg #[.int .i64 6,.int .i64 ka,.int .i64 kb,.int .i64 kc,.int .i64 n]] (hp a x) (fun v As=>∃z:HX,v=an (doPair x.H ⟨6,ka,kb,kc,n⟩).code (doPair x.H ⟨6,ka,kb,kc,n⟩).num∧As=hp a z∧z.H=(doPair x.H ⟨6,ka,kb,kc,n⟩).heap):=by
 have hQ:=hP
 simp[ActP,aMost,bMost,cMost]at hQ
 refine fnA_of (fun h=>fn130 (by simp) h) ?_
 repeat' (first
  |(refine k_L ?_;first|refine a_p rfl ?_|(refine k_st ?_;refine g_sw rfl rfl rfl rfl (Nat.le_of_ble_eq_true rfl) ?_)|(refine k_al ?_;refine a_al ?_)|(refine k_bx ?_;refine a_bx rfl rfl ?_)|(refine k_c ?_;refine a_cq rfl (fun m hm=>actOk_t (b:=⟨6,ka,kb,kc,n⟩) hP) ?_)|(refine g_c rfl (l5pair_rd (x:=x) (op:=6) (n:=n) (ka:=ka) (kb:=kb) (kc:=kc) h (by omega) (by omega) (by omega)) (fun v As' hq=>?_);obtain⟨z,rfl,rfl,hz⟩:=hq))
  |refine a_n ?_
  |(refine k_V ?_;first|refine v_seq ?_|refine v_reg ?_|refine v_bs ?_|refine v_ret ?_|refine v_skip ?_|refine v_ct rfl ?_|refine v_cf rfl ?_)
  |refine s_r ?_
  |refine b_r ?_
  |refine sk_zero ?_
  |refine sk_succ ?_
  |refine wk_nil ?_
  |refine wk_cons ?_)
 all_goals exact fa_r (fun _ _=>rfl) (Pm.ent pmt) ⟨z,rfl,rfl,hz⟩
theorem do_7{a:Nat}{x:HX}{n:Int}{ka kb kc:Nat}(h:Sound x.H)(hP:ActP ⟨7,ka,kb,kc,n⟩):FnA Tryz.prog 130 [ptr a,.agg #[.int .i64 7,.int .i64 ka,.int .i64 kb,.int .i64 kc,.int .i64 n]] (hp a x) (fun v As=>∃z:HX,v=an (doPair x.H ⟨7,ka,kb,kc,n⟩).code (doPair x.H ⟨7,ka,kb,kc,n⟩).num∧As=hp a z∧z.H=(doPair x.H ⟨7,ka,kb,kc,n⟩).heap):=by
 have hQ:=hP
 simp[ActP,aMost,bMost,cMost]at hQ
 refine fnA_of (fun h=>fn130 (by simp) h) ?_
 repeat' (first
  |(refine k_L ?_;first|refine a_p rfl ?_|(refine k_st ?_;refine g_sw rfl rfl rfl rfl (Nat.le_of_ble_eq_true rfl) ?_)|(refine k_al ?_;refine a_al ?_)|(refine k_bx ?_;refine a_bx rfl rfl ?_)|(refine k_c ?_;refine a_cq rfl (fun m hm=>actOk_t (b:=⟨7,ka,kb,kc,n⟩) hP) ?_)|(refine g_c rfl (l5pair_wr (x:=x) (op:=7) (n:=n) (ka:=ka) (kb:=kb) (kc:=kc) h (by omega) (by omega) (by omega)) (fun v As' hq=>?_);obtain⟨z,rfl,rfl,hz⟩:=hq))
  |refine a_n ?_
  |(refine k_V ?_;first|refine v_seq ?_|refine v_reg ?_|refine v_bs ?_|refine v_ret ?_|refine v_skip ?_|refine v_ct rfl ?_|refine v_cf rfl ?_)
  |refine s_r ?_
  |refine b_r ?_
  |refine sk_zero ?_
  |refine sk_succ ?_
  |refine wk_nil ?_
  |refine wk_cons ?_)
 all_goals exact fa_r (fun _ _=>rfl) (Pm.ent pmt) ⟨z,rfl,rfl,hz⟩
theorem do_8{a:Nat}{x:HX}{n:Int}{ka kb kc:Nat}(h:Sound x.H)(hP:ActP ⟨8,ka,kb,kc,n⟩):FnA Tryz.prog 130 [ptr a,.agg #[.int .i64 8,.int .i64 ka,.int .i64 kb,.int .i64 kc,.int .i64 n]] (hp a x) (fun v As=>∃z:HX,v=an (doPair x.H ⟨8,ka,kb,kc,n⟩).code (doPair x.H ⟨8,ka,kb,kc,n⟩).num∧As=hp a z∧z.H=(doPair x.H ⟨8,ka,kb,kc,n⟩).heap):=by
 have hQ:=hP
 simp[ActP,aMost,bMost,cMost]at hQ
 refine fnA_of (fun h=>fn130 (by simp) h) ?_
 repeat' (first
  |(refine k_L ?_;first|refine a_p rfl ?_|(refine k_st ?_;refine g_sw rfl rfl rfl rfl (Nat.le_of_ble_eq_true rfl) ?_)|(refine k_al ?_;refine a_al ?_)|(refine k_bx ?_;refine a_bx rfl rfl ?_)|(refine k_c ?_;refine a_cq rfl (fun m hm=>actOk_t (b:=⟨8,ka,kb,kc,n⟩) hP) ?_)|(refine g_c rfl (l5pair_wr (x:=x) (op:=8) (n:=n) (ka:=ka) (kb:=kb) (kc:=kc) h (by omega) (by omega) (by omega)) (fun v As' hq=>?_);obtain⟨z,rfl,rfl,hz⟩:=hq))
  |refine a_n ?_
  |(refine k_V ?_;first|refine v_seq ?_|refine v_reg ?_|refine v_bs ?_|refine v_ret ?_|refine v_skip ?_|refine v_ct rfl ?_|refine v_cf rfl ?_)
  |refine s_r ?_
  |refine b_r ?_
  |refine sk_zero ?_
  |refine sk_succ ?_
  |refine wk_nil ?_
  |refine wk_cons ?_)
 all_goals exact fa_r (fun _ _=>rfl) (Pm.ent pmt) ⟨z,rfl,rfl,hz⟩
theorem l5cell_g{a:Nat}{x:HX}{n:Int}{ka kb kc:Nat}(h:Sound x.H)(ha:ka≤15)(hc:kc≤200):FnA Tryz.prog 137 [ptr a,.agg #[.int .i64 9,.int .i64 ka,.int .i64 kb,.int .i64 kc,.int .i64 n]] (hp a x) (fun v As=>∃z:HX,v=an (doCell x.H ⟨9,ka,kb,kc,n⟩).code (doCell x.H ⟨9,ka,kb,kc,n⟩).num∧As=hp a z∧z.H=(doCell x.H ⟨9,ka,kb,kc,n⟩).heap):=by
 have hl:=x.len
 have hnc:x.hdr.nc=x.xs.length:=rfl
 have hnr:x.hdr.nr=x.regs.length:=rfl
 have h16:x.regs.length=16:=h.r1.regs
 obtain⟨w,gw⟩:∃w,x.regs[ka]?=some w:=⟨_,List.getElem?_eq_getElem (by omega)⟩
 have er:x.H.getR ka=w:=getR_at gw
 refine fnA_of (fun h=>fn137 (by simp) h) ?_
 unfold doCell
 dsimp only
 rw[er]
 by_cases hk:w.kind=2
 ·obtain⟨wk,wn,wat⟩:=w
  dsimp only at hk
  subst hk
  rw[if_neg (fun e=>e rfl)]
  repeat' (first
   |(refine k_L ?_;first|refine a_p rfl ?_|(refine k_l ?_;refine g_l rfl ?_)|(refine k_i ?_;refine g_i rfl rfl ?_)|(refine k_ls ?_;refine g_ls rfl ?_)|(refine k_st ?_;refine g_sw rfl rfl rfl rfl (Nat.le_of_ble_eq_true rfl) ?_)|(refine k_al ?_;refine a_al ?_)|(refine k_bx ?_;refine a_bx rfl rfl ?_)|(refine g_c rfl (l5grow_a (x:=x) (op:=9) (n:=n) (ka:=ka) (kb:=kb) (kc:=kc) h ha hc (by rw[er])) (fun v As' hq=>?_);obtain⟨z,rfl,rfl,hz⟩:=hq))
   |refine a_n ?_
   |(refine k_V ?_;first|refine v_seq ?_|refine v_reg ?_|refine v_dreg ?_|refine v_bs ?_|refine v_ret ?_|refine v_skip ?_|refine v_ct rfl ?_|refine v_cf rfl ?_)
   |refine s_r ?_
   |refine b_r ?_
   |refine sk_zero ?_
   |refine sk_succ ?_
   |refine wk_nil ?_
   |refine wk_cons ?_)
  all_goals exact fa_r (fun _ _=>rfl) (Pm.ent pmt) ⟨z,rfl,rfl,hz⟩
 ·rw[if_pos hk]
  repeat' (first
   |(refine k_L ?_;first|refine a_p rfl ?_|(refine k_l ?_;refine g_l rfl ?_)|(refine k_i ?_;refine g_i rfl rfl ?_)|(refine k_ls ?_;refine g_ls rfl ?_)|(refine k_st ?_;refine g_sw rfl rfl rfl rfl (Nat.le_of_ble_eq_true rfl) ?_)|(refine k_al ?_;refine a_al ?_)|(refine k_bx ?_;refine a_bx rfl rfl ?_)|(refine k_c ?_;refine a_cq rfl (fun m hm=>l5bad_q) ?_))
   |refine a_n ?_
   |(refine k_V ?_;first|refine v_seq ?_|refine v_reg ?_|refine v_dreg ?_|refine v_ret ?_|(refine v_cn rfl (fun hb=>?_) (fun hb=>?_)<;>try(exfalso;omega)))
   |refine s_r ?_
   |refine sk_zero ?_
   |refine sk_succ ?_
   |refine wk_nil ?_
   |refine wk_cons ?_)
  all_goals exact fa_r (fun _ _=>rfl) (Pm.ent pmt) ⟨x,rfl,rfl,rfl⟩
theorem do_9{a:Nat}{x:HX}{n:Int}{ka kb kc:Nat}(h:Sound x.H)(hP:ActP ⟨9,ka,kb,kc,n⟩):FnA Tryz.prog 130 [ptr a,.agg #[.int .i64 9,.int .i64 ka,.int .i64 kb,.int .i64 kc,.int .i64 n]] (hp a x) (fun v As=>∃z:HX,v=an (doCell x.H ⟨9,ka,kb,kc,n⟩).code (doCell x.H ⟨9,ka,kb,kc,n⟩).num∧As=hp a z∧z.H=(doCell x.H ⟨9,ka,kb,kc,n⟩).heap):=by
 have hQ:=hP
 simp[ActP,aMost,bMost,cMost]at hQ
 refine fnA_of (fun h=>fn130 (by simp) h) ?_
 repeat' (first
  |(refine k_L ?_;first|refine a_p rfl ?_|(refine k_st ?_;refine g_sw rfl rfl rfl rfl (Nat.le_of_ble_eq_true rfl) ?_)|(refine k_al ?_;refine a_al ?_)|(refine k_bx ?_;refine a_bx rfl rfl ?_)|(refine k_c ?_;refine a_cq rfl (fun m hm=>actOk_t (b:=⟨9,ka,kb,kc,n⟩) hP) ?_)|(refine g_c rfl (l5cell_g (x:=x) (n:=n) (ka:=ka) (kb:=kb) (kc:=kc) h (by omega) (by omega)) (fun v As' hq=>?_);obtain⟨z,rfl,rfl,hz⟩:=hq))
  |refine a_n ?_
  |(refine k_V ?_;first|refine v_seq ?_|refine v_reg ?_|refine v_bs ?_|refine v_ret ?_|refine v_skip ?_|refine v_ct rfl ?_|refine v_cf rfl ?_)
  |refine s_r ?_
  |refine b_r ?_
  |refine sk_zero ?_
  |refine sk_succ ?_
  |refine wk_nil ?_
  |refine wk_cons ?_)
 all_goals exact fa_r (fun _ _=>rfl) (Pm.ent pmt) ⟨z,rfl,rfl,hz⟩
theorem do_10{a:Nat}{x:HX}{n:Int}{ka kb kc:Nat}(h:Sound x.H)(hP:ActP ⟨10,ka,kb,kc,n⟩):FnA Tryz.prog 130 [ptr a,.agg #[.int .i64 10,.int .i64 ka,.int .i64 kb,.int .i64 kc,.int .i64 n]] (hp a x) (fun v As=>∃z:HX,v=an (doCell x.H ⟨10,ka,kb,kc,n⟩).code (doCell x.H ⟨10,ka,kb,kc,n⟩).num∧As=hp a z∧z.H=(doCell x.H ⟨10,ka,kb,kc,n⟩).heap):=by
 have hQ:=hP
 simp[ActP,aMost,bMost,cMost]at hQ
 refine fnA_of (fun h=>fn130 (by simp) h) ?_
 repeat' (first
  |(refine k_L ?_;first|refine a_p rfl ?_|(refine k_st ?_;refine g_sw rfl rfl rfl rfl (Nat.le_of_ble_eq_true rfl) ?_)|(refine k_al ?_;refine a_al ?_)|(refine k_bx ?_;refine a_bx rfl rfl ?_)|(refine k_c ?_;refine a_cq rfl (fun m hm=>actOk_t (b:=⟨10,ka,kb,kc,n⟩) hP) ?_)|(refine g_c rfl (l5cell_b (x:=x) (op:=10) (n:=n) (ka:=ka) (kb:=kb) (kc:=kc) h (by omega) (by omega)) (fun v As' hq=>?_);obtain⟨z,rfl,rfl,hz⟩:=hq))
  |refine a_n ?_
  |(refine k_V ?_;first|refine v_seq ?_|refine v_reg ?_|refine v_bs ?_|refine v_ret ?_|refine v_skip ?_|refine v_ct rfl ?_|refine v_cf rfl ?_)
  |refine s_r ?_
  |refine b_r ?_
  |refine sk_zero ?_
  |refine sk_succ ?_
  |refine wk_nil ?_
  |refine wk_cons ?_)
 all_goals exact fa_r (fun _ _=>rfl) (Pm.ent pmt) ⟨z,rfl,rfl,hz⟩
theorem do_11{a:Nat}{x:HX}{n:Int}{ka kb kc:Nat}(h:Sound x.H)(hP:ActP ⟨11,ka,kb,kc,n⟩):FnA Tryz.prog 130 [ptr a,.agg #[.int .i64 11,.int .i64 ka,.int .i64 kb,.int .i64 kc,.int .i64 n]] (hp a x) (fun v As=>∃z:HX,v=an (doCell x.H ⟨11,ka,kb,kc,n⟩).code (doCell x.H ⟨11,ka,kb,kc,n⟩).num∧As=hp a z∧z.H=(doCell x.H ⟨11,ka,kb,kc,n⟩).heap):=by
 have hQ:=hP
 simp[ActP,aMost,bMost,cMost]at hQ
 refine fnA_of (fun h=>fn130 (by simp) h) ?_
 repeat' (first
  |(refine k_L ?_;first|refine a_p rfl ?_|(refine k_st ?_;refine g_sw rfl rfl rfl rfl (Nat.le_of_ble_eq_true rfl) ?_)|(refine k_al ?_;refine a_al ?_)|(refine k_bx ?_;refine a_bx rfl rfl ?_)|(refine k_c ?_;refine a_cq rfl (fun m hm=>actOk_t (b:=⟨11,ka,kb,kc,n⟩) hP) ?_)|(refine g_c rfl (l5cell_a (x:=x) (op:=11) (n:=n) (ka:=ka) (kb:=kb) (kc:=kc) h (by omega) (by omega)) (fun v As' hq=>?_);obtain⟨z,rfl,rfl,hz⟩:=hq))
  |refine a_n ?_
  |(refine k_V ?_;first|refine v_seq ?_|refine v_reg ?_|refine v_bs ?_|refine v_ret ?_|refine v_skip ?_|refine v_ct rfl ?_|refine v_cf rfl ?_)
  |refine s_r ?_
  |refine b_r ?_
  |refine sk_zero ?_
  |refine sk_succ ?_
  |refine wk_nil ?_
  |refine wk_cons ?_)
 all_goals exact fa_r (fun _ _=>rfl) (Pm.ent pmt) ⟨z,rfl,rfl,hz⟩
theorem do_12{a:Nat}{x:HX}{n:Int}{ka kb kc:Nat}(h:Sound x.H)(hP:ActP ⟨12,ka,kb,kc,n⟩):FnA Tryz.prog 130 [ptr a,.agg #[.int .i64 12,.int .i64 ka,.int .i64 kb,.int .i64 kc,.int .i64 n]] (hp a x) (fun v As=>∃z:HX,v=an (doCell x.H ⟨12,ka,kb,kc,n⟩).code (doCell x.H ⟨12,ka,kb,kc,n⟩).num∧As=hp a z∧z.H=(doCell x.H ⟨12,ka,kb,kc,n⟩).heap):=by
 have hQ:=hP
 simp[ActP,aMost,bMost,cMost]at hQ
 refine fnA_of (fun h=>fn130 (by simp) h) ?_
 repeat' (first
  |(refine k_L ?_;first|refine a_p rfl ?_|(refine k_st ?_;refine g_sw rfl rfl rfl rfl (Nat.le_of_ble_eq_true rfl) ?_)|(refine k_al ?_;refine a_al ?_)|(refine k_bx ?_;refine a_bx rfl rfl ?_)|(refine k_c ?_;refine a_cq rfl (fun m hm=>actOk_t (b:=⟨12,ka,kb,kc,n⟩) hP) ?_)|(refine g_c rfl (l5cell_b (x:=x) (op:=12) (n:=n) (ka:=ka) (kb:=kb) (kc:=kc) h (by omega) (by omega)) (fun v As' hq=>?_);obtain⟨z,rfl,rfl,hz⟩:=hq))
  |refine a_n ?_
  |(refine k_V ?_;first|refine v_seq ?_|refine v_reg ?_|refine v_bs ?_|refine v_ret ?_|refine v_skip ?_|refine v_ct rfl ?_|refine v_cf rfl ?_)
  |refine s_r ?_
  |refine b_r ?_
  |refine sk_zero ?_
  |refine sk_succ ?_
  |refine wk_nil ?_
  |refine wk_cons ?_)
 all_goals exact fa_r (fun _ _=>rfl) (Pm.ent pmt) ⟨z,rfl,rfl,hz⟩
theorem do_16{a:Nat}{x:HX}{n:Int}{ka kb kc:Nat}(h:Sound x.H)(hP:ActP ⟨16,ka,kb,kc,n⟩):FnA Tryz.prog 130 [ptr a,.agg #[.int .i64 16,.int .i64 ka,.int .i64 kb,.int .i64 kc,.int .i64 n]] (hp a x) (fun v As=>∃z:HX,v=an (doCell x.H ⟨16,ka,kb,kc,n⟩).code (doCell x.H ⟨16,ka,kb,kc,n⟩).num∧As=hp a z∧z.H=(doCell x.H ⟨16,ka,kb,kc,n⟩).heap):=by
 have hQ:=hP
 simp[ActP,aMost,bMost,cMost]at hQ
 refine fnA_of (fun h=>fn130 (by simp) h) ?_
 repeat' (first
  |(refine k_L ?_;first|refine a_p rfl ?_|(refine k_st ?_;refine g_sw rfl rfl rfl rfl (Nat.le_of_ble_eq_true rfl) ?_)|(refine k_al ?_;refine a_al ?_)|(refine k_bx ?_;refine a_bx rfl rfl ?_)|(refine k_c ?_;refine a_cq rfl (fun m hm=>actOk_t (b:=⟨16,ka,kb,kc,n⟩) hP) ?_)|(refine g_c rfl (l5cell_a (x:=x) (op:=16) (n:=n) (ka:=ka) (kb:=kb) (kc:=kc) h (by omega) (by omega)) (fun v As' hq=>?_);obtain⟨z,rfl,rfl,hz⟩:=hq))
  |refine a_n ?_
  |(refine k_V ?_;first|refine v_seq ?_|refine v_reg ?_|refine v_bs ?_|refine v_ret ?_|refine v_skip ?_|refine v_ct rfl ?_|refine v_cf rfl ?_)
  |refine s_r ?_
  |refine b_r ?_
  |refine sk_zero ?_
  |refine sk_succ ?_
  |refine wk_nil ?_
  |refine wk_cons ?_)
 all_goals exact fa_r (fun _ _=>rfl) (Pm.ent pmt) ⟨z,rfl,rfl,hz⟩
theorem do_17{a:Nat}{x:HX}{n:Int}{ka kb kc:Nat}(h:Sound x.H)(hP:ActP ⟨17,ka,kb,kc,n⟩):FnA Tryz.prog 130 [ptr a,.agg #[.int .i64 17,.int .i64 ka,.int .i64 kb,.int .i64 kc,.int .i64 n]] (hp a x) (fun v As=>∃z:HX,v=an (doCell x.H ⟨17,ka,kb,kc,n⟩).code (doCell x.H ⟨17,ka,kb,kc,n⟩).num∧As=hp a z∧z.H=(doCell x.H ⟨17,ka,kb,kc,n⟩).heap):=by
 have hQ:=hP
 simp[ActP,aMost,bMost,cMost]at hQ
 refine fnA_of (fun h=>fn130 (by simp) h) ?_
 repeat' (first
  |(refine k_L ?_;first|refine a_p rfl ?_|(refine k_st ?_;refine g_sw rfl rfl rfl rfl (Nat.le_of_ble_eq_true rfl) ?_)|(refine k_al ?_;refine a_al ?_)|(refine k_bx ?_;refine a_bx rfl rfl ?_)|(refine k_c ?_;refine a_cq rfl (fun m hm=>actOk_t (b:=⟨17,ka,kb,kc,n⟩) hP) ?_)|(refine g_c rfl (l5cell_a (x:=x) (op:=17) (n:=n) (ka:=ka) (kb:=kb) (kc:=kc) h (by omega) (by omega)) (fun v As' hq=>?_);obtain⟨z,rfl,rfl,hz⟩:=hq))
  |refine a_n ?_
  |(refine k_V ?_;first|refine v_seq ?_|refine v_reg ?_|refine v_bs ?_|refine v_ret ?_|refine v_skip ?_|refine v_ct rfl ?_|refine v_cf rfl ?_)
  |refine s_r ?_
  |refine b_r ?_
  |refine sk_zero ?_
  |refine sk_succ ?_
  |refine wk_nil ?_
  |refine wk_cons ?_)
 all_goals exact fa_r (fun _ _=>rfl) (Pm.ent pmt) ⟨z,rfl,rfl,hz⟩
end Go.Proofs.YtcjmodomfilagaaGreat.E
