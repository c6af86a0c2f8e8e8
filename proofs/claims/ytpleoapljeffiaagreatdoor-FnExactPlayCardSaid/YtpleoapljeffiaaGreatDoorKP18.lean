/- A part of the proof. Conditions: none. -/
import Derived.Test.YtpleoapljeffiaaGreatDoorKP17
set_option linter.unusedVariables false
set_option linter.unusedSimpArgs false
set_option maxHeartbeats 8000000
set_option maxRecDepth 100000
namespace Go.Proofs.YtpleoapljeffiaaGreatDoor.E
open Go
open Classical
theorem shadeH_put{H:Heap}{i t k:Nat}{q:Pair}(hi:i<H.cells.length)(ht:t<H.cells.length):(H.putP i k q).shadeH t=(H.shadeH t).putP i k q:=by
 have gC:(H.putP i k q).getC t=if t=i then{H.getC i with pairs:=(H.getC i).pairs.set k q}else H.getC t:=by
  have:(H.putP i k q).getC t=if(t:Int).toNat=i then{H.getC i with pairs:=(H.getC i).pairs.set k q}else H.getC t:=by rw[getC_L,getC_L];exact getL_set hi
  rw[this,Int.toNat_natCast]
 have hcl:((H.putP i k q).getC t).color=(H.getC t).color:=by
  rw[gC];split
  ·rename_i e;rw[e]
  ·rfl
 unfold Heap.shadeH
 rw[hcl]
 have hm:Marking (H.putP i k q)↔Marking H:=Iff.rfl
 by_cases c:Marking H∧(H.getC t).color=0
 ·rw[if_pos c,if_pos ⟨hm.2 c.1,c.2⟩,gC]
  have gD:(H.gray1 t (H.getC t)).getC i=if i=t then(H.getC t).col 1 else H.getC i:=by
   have:(H.gray1 t (H.getC t)).getC i=if(i:Int).toNat=t then(H.getC t).col 1 else H.getC i:=by rw[getC_L,getC_L];exact getL_set ht
   rw[this,Int.toNat_natCast]
  unfold Heap.putP
  rw[gD]
  unfold Heap.gray1
  by_cases e:t=i
  ·subst e
   rw[if_pos rfl,if_pos rfl]
   simp only[List.set_set];rfl
  ·rw[if_neg e,if_neg (fun h=>e h.symm)]
   simp only[Heap.mk.injEq,true_and,and_true]
   exact List.set_comm _ _ (fun h=>e h.symm)
 ·rw[if_neg c,if_neg (fun h=>c ⟨hm.1 h.1,h.2⟩)]
theorem shadeW_put{H:Heap}{i k:Nat}{q:Pair}{w:Word}(hi:i<H.cells.length)(hf:Formed H w):(H.putP i k q).shadeW w=(H.shadeW w).putP i k q:=by
 unfold Heap.shadeW
 by_cases hk:w.kind=2
 ·rw[if_pos hk,if_pos hk]
  have:=hf.at hk
  exact shadeH_put hi (by omega)
 ·rw[if_neg hk,if_neg hk]
theorem l5pair_wr{a:Nat}{x:HX}{op n:Int}{ka kb kc:Nat}(h:Sound x.H)(ha:ka≤15)(hb:kb≤15)(ho:op=7∨op=8):FnA Tryz.prog 56 [ptr a,.agg #[.int .i64 op,.int .i64 ka,.int .i64 kb,.int .i64 kc,.int .i64 n]] (hp a x) (fun v As=>∃z:HX,v=an (doPair x.H ⟨op,ka,kb,kc,n⟩).code (doPair x.H ⟨op,ka,kb,kc,n⟩).num∧As=hp a z∧z.H=(doPair x.H ⟨op,ka,kb,kc,n⟩).heap):=by
 have hl:=x.len
 have hnc:x.hdr.nc=x.xs.length:=rfl
 have hnr:x.hdr.nr=x.regs.length:=rfl
 have h16:x.regs.length=16:=h.r1.regs
 obtain⟨v,gv⟩:∃w,x.regs[kb]?=some w:=⟨_,List.getElem?_eq_getElem (by omega)⟩
 obtain⟨w,gw⟩:∃w,x.regs[ka]?=some w:=⟨_,List.getElem?_eq_getElem (by omega)⟩
 have er:x.H.getR ka=w:=getR_at gw
 obtain⟨r1,r2⟩:=getR_ok h (r:=ka) (by omega) (by omega)
 rw[er]at r1 r2
 refine fnA_of (fun h=>fn56 (by simp) h) ?_
 unfold doPair
 dsimp only
 rw[if_neg (show ¬(op=5∨op=6) by omega),er]
 by_cases hk:w.kind=2
 ·obtain⟨b0,b1,b2,b3⟩:=r2 hk
  obtain⟨j,hj⟩:=Int.eq_ofNat_of_zero_le b0
  obtain⟨wk,wn,wat⟩:=w
  dsimp only at hk hj b1
  subst hk hj
  obtain⟨y,gy,gc⟩:=HX.at (x:=x) (i:=j) (by omega)
  have gk:=HX.gc gy
  rw[if_neg (fun e=>e rfl)]
  dsimp only
  rw[gk,Int.toNat_natCast]
  have hcj:x.H.cells[j]?=some y.c:=gc
  cases hpp:y.c.pairs[kc]? with
  |none=>
   have:=List.getElem?_eq_none_iff.1 hpp
   rcases ho with rfl|rfl
   ·repeat' (first
     |(refine k_L ?_;first|refine a_p rfl ?_|(refine k_g ?_;refine a_gy rfl rfl ?_)|(refine k_l ?_;first|refine a_l rfl (by exact rd_t (rd_h (rd_sl (fun _=>rfl) gw rfl))) ?_|refine g_l rfl ?_)|(refine k_i ?_;refine g_i rfl rfl ?_)|(refine k_st ?_;refine g_sw rfl rfl rfl rfl (Nat.le_of_ble_eq_true rfl) ?_)|(refine k_al ?_;refine a_al ?_)|(refine k_bx ?_;refine a_bx rfl rfl ?_)|(refine k_c ?_;refine a_cq rfl (fun m hm=>l5bad_q) ?_))
     |refine a_n ?_
     |(refine k_V ?_;first|refine v_seq ?_|refine v_reg ?_|refine v_dreg ?_|refine v_ret ?_|refine v_skip ?_|refine v_cf rfl ?_|(refine v_cd rfl (fun hb=>?_) (fun hb=>?_)<;>try(exfalso;omega)))
     |refine s_r ?_
     |refine sk_zero ?_
     |refine sk_succ ?_
     |refine wk_nil ?_
     |refine wk_cons ?_)
    all_goals exact fa_r (fun _ _=>rfl) (Pm.ent pmt) ⟨x,rfl,rfl,rfl⟩
   ·repeat' (first
     |(refine k_L ?_;first|refine a_p rfl ?_|(refine k_g ?_;refine a_gy rfl rfl ?_)|(refine k_l ?_;first|refine a_l rfl (by exact rd_t (rd_h (rd_sl (fun _=>rfl) gw rfl))) ?_|refine g_l rfl ?_)|(refine k_i ?_;refine g_i rfl rfl ?_)|(refine k_st ?_;refine g_sw rfl rfl rfl rfl (Nat.le_of_ble_eq_true rfl) ?_)|(refine k_al ?_;refine a_al ?_)|(refine k_bx ?_;refine a_bx rfl rfl ?_)|(refine k_c ?_;refine a_cq rfl (fun m hm=>l5bad_q) ?_))
     |refine a_n ?_
     |(refine k_V ?_;first|refine v_seq ?_|refine v_reg ?_|refine v_dreg ?_|refine v_ret ?_|refine v_skip ?_|refine v_cf rfl ?_|(refine v_cd rfl (fun hb=>?_) (fun hb=>?_)<;>try(exfalso;omega)))
     |refine s_r ?_
     |refine sk_zero ?_
     |refine sk_succ ?_
     |refine wk_nil ?_
     |refine wk_cons ?_)
    all_goals exact fa_r (fun _ _=>rfl) (Pm.ent pmt) ⟨x,rfl,rfl,rfl⟩
  |some p=>
   have:=(List.getElem?_eq_some_iff.1 hpp).1
   have ev:x.H.getR kb=v:=getR_at gv
   obtain⟨v1,v2⟩:=getR_ok h (r:=kb) (by omega) (by omega)
   rw[ev]at v1 v2
   rcases ho with rfl|rfl
   ·repeat' (first
     |(refine k_L ?_;first|refine a_p rfl ?_|(refine k_g ?_;refine a_gy rfl rfl ?_)|(refine k_l ?_;first|refine a_l rfl (by exact rd_t (rd_h (rd_sl (fun _=>rfl) gw rfl))) ?_|refine g_l rfl ?_)|(refine k_i ?_;refine g_i rfl rfl ?_)|(refine k_ls ?_;refine g_ls rfl ?_)|(refine k_st ?_;refine g_sw rfl rfl rfl rfl (Nat.le_of_ble_eq_true rfl) ?_)|(refine k_al ?_;refine a_al ?_)|(refine k_bx ?_;refine a_bx rfl rfl ?_))
     |refine a_n ?_
     |(refine k_V ?_;first|refine v_seq ?_|refine v_reg ?_|refine v_dreg ?_|refine v_bs ?_|refine v_skip ?_|refine v_ct rfl ?_|refine v_cf rfl ?_|(refine v_cd rfl (fun hb=>?_) (fun hb=>?_)<;>try(exfalso;omega)))
     |refine sk_zero ?_
     |refine sk_succ ?_
     |refine wk_nil ?_
     |refine wk_cons ?_)
    refine a_st rfl rfl rfl rfl (up_t (up_t (up_h (u_pair (p':=⟨v,p.val⟩) gy hpp)))) ?_
    have zH:HX.H {x with xs:=x.xs.set j (y.s_pair kc ⟨v,p.val⟩)}=x.H.putP j kc ⟨v,p.val⟩:=by
     unfold Heap.putP
     rw[gk]
     unfold HX.H
     simp only[List.map_set];rfl
    repeat' (first
     |(refine k_L ?_;first|refine a_p rfl ?_|(refine k_l ?_;refine g_l rfl ?_)|(refine k_i ?_;refine g_i rfl rfl ?_)|(refine k_ls ?_;refine g_ls rfl ?_))
     |refine a_n ?_
     |(refine k_V ?_;first|refine v_seq ?_|refine v_dreg ?_))
    rw[show((kc:Int)).toNat=kc from rfl]
    refine LA.ent (Pm.ent (fin ({x with xs:=x.xs.set j (y.s_pair kc ⟨v,p.val⟩)}:HX) (e1:=by simp[HX.hdr]))) ?_
    refine g_c rfl (l3shade_a (x:={x with xs:=x.xs.set j (y.s_pair kc ⟨v,p.val⟩)}) (w:=v) (fun hk=>by rw[zH];have:=v1.at hk;show _∧_<((x.H.cells.set j _).length:Int);rw[List.length_set];exact this) (by have:=h.r1.gray;have:=h.r1.cells;have:=h.r1.room;show x.gray.length≤_;have e:x.H.gray.length=x.gray.length:=rfl;omega)) (fun v' As' hq=>?_)
    obtain⟨u,rfl,rfl,hu,_⟩:=hq
    repeat' (first
     |(refine k_L ?_;first|(refine k_st ?_;refine g_sw rfl rfl rfl rfl (Nat.le_of_ble_eq_true rfl) ?_)|(refine k_c ?_;refine a_cq rfl (fun m hm=>l5fine_q) ?_))
     |refine a_n ?_
     |(refine k_V ?_;first|refine v_seq ?_|refine v_reg ?_|refine v_ret ?_)
     |refine sk_zero ?_
     |refine sk_succ ?_
     |refine wk_nil ?_
     |refine wk_cons ?_)
    all_goals exact fa_r (fun _ _=>rfl) (Pm.ent pmt) ⟨u,rfl,rfl,by rw[hu,zH,shadeW_put (by omega) v1,ev];rfl⟩
   ·repeat' (first
     |(refine k_L ?_;first|refine a_p rfl ?_|(refine k_g ?_;refine a_gy rfl rfl ?_)|(refine k_l ?_;first|refine a_l rfl (by exact rd_t (rd_h (rd_sl (fun _=>rfl) gw rfl))) ?_|refine g_l rfl ?_)|(refine k_i ?_;refine g_i rfl rfl ?_)|(refine k_ls ?_;refine g_ls rfl ?_)|(refine k_st ?_;refine g_sw rfl rfl rfl rfl (Nat.le_of_ble_eq_true rfl) ?_)|(refine k_al ?_;refine a_al ?_)|(refine k_bx ?_;refine a_bx rfl rfl ?_))
     |refine a_n ?_
     |(refine k_V ?_;first|refine v_seq ?_|refine v_reg ?_|refine v_dreg ?_|refine v_bs ?_|refine v_skip ?_|refine v_cf rfl ?_|(refine v_cd rfl (fun hb=>?_) (fun hb=>?_)<;>try(exfalso;omega)))
     |refine sk_zero ?_
     |refine sk_succ ?_
     |refine wk_nil ?_
     |refine wk_cons ?_)
    refine a_st rfl rfl rfl rfl (up_t (up_t (up_h (u_pair (p':=⟨p.key,v⟩) gy hpp)))) ?_
    have zH:HX.H {x with xs:=x.xs.set j (y.s_pair kc ⟨p.key,v⟩)}=x.H.putP j kc ⟨p.key,v⟩:=by
     unfold Heap.putP
     rw[gk]
     unfold HX.H
     simp only[List.map_set];rfl
    repeat' (first
     |(refine k_L ?_;first|refine a_p rfl ?_|(refine k_l ?_;refine g_l rfl ?_)|(refine k_i ?_;refine g_i rfl rfl ?_)|(refine k_ls ?_;refine g_ls rfl ?_))
     |refine a_n ?_
     |(refine k_V ?_;first|refine v_seq ?_|refine v_dreg ?_))
    rw[show((kc:Int)).toNat=kc from rfl]
    refine LA.ent (Pm.ent (fin ({x with xs:=x.xs.set j (y.s_pair kc ⟨p.key,v⟩)}:HX) (e1:=by simp[HX.hdr]))) ?_
    refine g_c rfl (l3shade_a (x:={x with xs:=x.xs.set j (y.s_pair kc ⟨p.key,v⟩)}) (w:=v) (fun hk=>by rw[zH];have:=v1.at hk;show _∧_<((x.H.cells.set j _).length:Int);rw[List.length_set];exact this) (by have:=h.r1.gray;have:=h.r1.cells;have:=h.r1.room;show x.gray.length≤_;have e:x.H.gray.length=x.gray.length:=rfl;omega)) (fun v' As' hq=>?_)
    obtain⟨u,rfl,rfl,hu,_⟩:=hq
    repeat' (first
     |(refine k_L ?_;first|(refine k_st ?_;refine g_sw rfl rfl rfl rfl (Nat.le_of_ble_eq_true rfl) ?_)|(refine k_c ?_;refine a_cq rfl (fun m hm=>l5fine_q) ?_))
     |refine a_n ?_
     |(refine k_V ?_;first|refine v_seq ?_|refine v_reg ?_|refine v_ret ?_)
     |refine sk_zero ?_
     |refine sk_succ ?_
     |refine wk_nil ?_
     |refine wk_cons ?_)
    all_goals exact fa_r (fun _ _=>rfl) (Pm.ent pmt) ⟨u,rfl,rfl,by rw[hu,zH,shadeW_put (by omega) v1,ev];rfl⟩
 ·rw[if_pos hk]
  rcases ho with rfl|rfl
  ·repeat' (first
    |(refine k_L ?_;first|refine a_p rfl ?_|(refine k_g ?_;refine a_gy rfl rfl ?_)|(refine k_l ?_;first|refine a_l rfl (by exact rd_t (rd_h (rd_sl (fun _=>rfl) gw rfl))) ?_|refine g_l rfl ?_)|(refine k_i ?_;refine g_i rfl rfl ?_)|(refine k_st ?_;refine g_sw rfl rfl rfl rfl (Nat.le_of_ble_eq_true rfl) ?_)|(refine k_al ?_;refine a_al ?_)|(refine k_bx ?_;refine a_bx rfl rfl ?_)|(refine k_c ?_;refine a_cq rfl (fun m hm=>l5bad_q) ?_))
    |refine a_n ?_
    |(refine k_V ?_;first|refine v_seq ?_|refine v_reg ?_|refine v_ret ?_|refine v_skip ?_|refine v_cf rfl ?_|(refine v_cn rfl (fun hb=>?_) (fun hb=>?_)<;>try(exfalso;omega)))
    |refine s_r ?_
    |refine sk_zero ?_
    |refine sk_succ ?_
    |refine wk_nil ?_
    |refine wk_cons ?_)
   all_goals exact fa_r (fun _ _=>rfl) (Pm.ent pmt) ⟨x,rfl,rfl,rfl⟩
  ·repeat' (first
    |(refine k_L ?_;first|refine a_p rfl ?_|(refine k_g ?_;refine a_gy rfl rfl ?_)|(refine k_l ?_;first|refine a_l rfl (by exact rd_t (rd_h (rd_sl (fun _=>rfl) gw rfl))) ?_|refine g_l rfl ?_)|(refine k_i ?_;refine g_i rfl rfl ?_)|(refine k_st ?_;refine g_sw rfl rfl rfl rfl (Nat.le_of_ble_eq_true rfl) ?_)|(refine k_al ?_;refine a_al ?_)|(refine k_bx ?_;refine a_bx rfl rfl ?_)|(refine k_c ?_;refine a_cq rfl (fun m hm=>l5bad_q) ?_))
    |refine a_n ?_
    |(refine k_V ?_;first|refine v_seq ?_|refine v_reg ?_|refine v_ret ?_|refine v_skip ?_|refine v_cf rfl ?_|(refine v_cn rfl (fun hb=>?_) (fun hb=>?_)<;>try(exfalso;omega)))
    |refine s_r ?_
    |refine sk_zero ?_
    |refine sk_succ ?_
    |refine wk_nil ?_
    |refine wk_cons ?_)
   all_goals exact fa_r (fun _ _=>rfl) (Pm.ent pmt) ⟨x,rfl,rfl,rfl⟩
theorem l5cell_a{a:Nat}{x:HX}{op n:Int}{ka kb kc:Nat}(h:Sound x.H)(ha:ka≤15)(ho:op=11∨op=16∨op=17):FnA Tryz.prog 57 [ptr a,.agg #[.int .i64 op,.int .i64 ka,.int .i64 kb,.int .i64 kc,.int .i64 n]] (hp a x) (fun v As=>∃z:HX,v=an (doCell x.H ⟨op,ka,kb,kc,n⟩).code (doCell x.H ⟨op,ka,kb,kc,n⟩).num∧As=hp a z∧z.H=(doCell x.H ⟨op,ka,kb,kc,n⟩).heap):=by
 have hl:=x.len
 have hnc:x.hdr.nc=x.xs.length:=rfl
 have hnr:x.hdr.nr=x.regs.length:=rfl
 have h16:x.regs.length=16:=h.r1.regs
 obtain⟨w,gw⟩:∃w,x.regs[ka]?=some w:=⟨_,List.getElem?_eq_getElem (by omega)⟩
 have er:x.H.getR ka=w:=getR_at gw
 obtain⟨r1,r2⟩:=getR_ok h (r:=ka) (by omega) (by omega)
 rw[er]at r1 r2
 refine fnA_of (fun h=>fn57 (by simp) h) ?_
 unfold doCell
 dsimp only
 rw[er]
 by_cases hk:w.kind=2
 ·obtain⟨b0,b1,b2,b3⟩:=r2 hk
  obtain⟨j,hj⟩:=Int.eq_ofNat_of_zero_le b0
  obtain⟨wk,wn,wat⟩:=w
  dsimp only at hk hj b1
  subst hk hj
  obtain⟨y,gy,gc⟩:=HX.at (x:=x) (i:=j) (by omega)
  have gk:=HX.gc gy
  rw[if_neg (fun e=>e rfl)]
  dsimp only
  rw[gk]
  rcases ho with rfl|rfl|rfl
  ·repeat' (first
    |(refine k_L ?_;first|refine a_p rfl ?_|(refine k_l ?_;refine g_l rfl ?_)|(refine k_i ?_;refine g_i rfl rfl ?_)|(refine k_ls ?_;refine g_ls rfl ?_)|(refine k_st ?_;first|refine g_st rfl rfl rfl rfl ?_|refine g_sw rfl rfl rfl rfl (Nat.le_of_ble_eq_true rfl) ?_)|(refine k_al ?_;refine a_al ?_)|(refine k_bx ?_;refine a_bx rfl rfl ?_)|(refine k_c ?_;refine a_cq rfl (fun m hm=>l5fine_q) ?_))
    |refine a_n ?_
    |(refine k_V ?_;first|refine v_seq ?_|refine v_reg ?_|refine v_dreg ?_|refine v_bs ?_|refine v_ret ?_|refine v_skip ?_|refine v_ct rfl ?_|refine v_cf rfl ?_)
    |refine sk_zero ?_
    |refine sk_succ ?_
    |refine wk_nil ?_
    |refine wk_cons ?_)
   refine fa_r (fun _ _=>rfl) (Pm.ent (fin ({x with xs:=x.xs.set j (y.s_weak kc)}:HX) (e1:=by simp[HX.hdr]))) ⟨_,rfl,rfl,?_⟩
   show _=x.H.putW j kc
   unfold Heap.putW
   rw[gk]
   unfold HX.H
   simp only[List.map_set];rfl
  ·repeat' (first
    |(refine k_L ?_;first|refine a_p rfl ?_|(refine k_l ?_;refine g_l rfl ?_)|(refine k_i ?_;refine g_i rfl rfl ?_)|(refine k_ls ?_;refine g_ls rfl ?_)|(refine k_st ?_;refine g_sw rfl rfl rfl rfl (Nat.le_of_ble_eq_true rfl) ?_)|(refine k_al ?_;refine a_al ?_)|(refine k_bx ?_;refine a_bx rfl rfl ?_)|(refine k_q ?_;refine a_q rfl (fun m hm=>l5fine_q) ?_))
    |refine a_n ?_
    |(refine k_V ?_;first|refine v_seq ?_|refine v_reg ?_|refine v_dreg ?_|refine v_bs ?_|refine v_ret ?_|refine v_skip ?_|refine v_ct rfl ?_|refine v_cf rfl ?_)
    |refine s_r ?_
    |refine b_r ?_
    |refine sk_zero ?_
    |refine sk_succ ?_
    |refine wk_nil ?_
    |refine wk_cons ?_)
   all_goals exact fa_r (fun _ _=>rfl) (Pm.ent pmt) ⟨x,rfl,rfl,rfl⟩
  ·repeat' (first
    |(refine k_L ?_;first|refine a_p rfl ?_|(refine k_l ?_;refine g_l rfl ?_)|(refine k_i ?_;refine g_i rfl rfl ?_)|(refine k_ls ?_;refine g_ls rfl ?_)|(refine k_st ?_;refine g_sw rfl rfl rfl rfl (Nat.le_of_ble_eq_true rfl) ?_)|(refine k_al ?_;refine a_al ?_)|(refine k_bx ?_;refine a_bx rfl rfl ?_)|(refine k_q ?_;refine a_q rfl (fun m hm=>l5fine_q) ?_))
    |refine a_n ?_
    |(refine k_V ?_;first|refine v_seq ?_|refine v_reg ?_|refine v_dreg ?_|refine v_bs ?_|refine v_ret ?_|refine v_skip ?_|refine v_ct rfl ?_|refine v_cf rfl ?_)
    |refine s_r ?_
    |refine b_r ?_
    |refine sk_zero ?_
    |refine sk_succ ?_
    |refine wk_nil ?_
    |refine wk_cons ?_)
   all_goals exact fa_r (fun _ _=>rfl) (Pm.ent pmt) ⟨x,rfl,rfl,rfl⟩
 ·rw[if_pos hk]
  repeat' (first
   |(refine k_L ?_;first|refine a_p rfl ?_|(refine k_l ?_;refine g_l rfl ?_)|(refine k_i ?_;refine g_i rfl rfl ?_)|(refine k_ls ?_;refine g_ls rfl ?_)|(refine k_st ?_;refine g_sw rfl rfl rfl rfl (Nat.le_of_ble_eq_true rfl) ?_)|(refine k_al ?_;refine a_al ?_)|(refine k_bx ?_;refine a_bx rfl rfl ?_)|(refine k_c ?_;refine a_cq rfl (fun m hm=>l5bad_q) ?_))
   |refine a_n ?_
   |(refine k_V ?_;first|refine v_seq ?_|refine v_reg ?_|refine v_dreg ?_|refine v_ret ?_|(refine v_cn rfl (fun hb=>?_) (fun hb=>?_)<;>try(exfalso;omega)))
   |refine s_r ?_
   |refine sk_zero ?_
   |refine sk_succ ?_
   |refine wk_nil ?_
   |refine wk_cons ?_)
  all_goals exact fa_r (fun _ _=>rfl) (Pm.ent pmt) ⟨x,rfl,rfl,rfl⟩
theorem shadeH_putL{H:Heap}{i t:Nat}{q:Int}(hi:i<H.cells.length)(ht:t<H.cells.length):(H.putL i q).shadeH t=(H.shadeH t).putL i q:=by
 have gC:(H.putL i q).getC t=if t=i then{H.getC i with last:=q}else H.getC t:=by
  have:(H.putL i q).getC t=if(t:Int).toNat=i then{H.getC i with last:=q}else H.getC t:=by rw[getC_L,getC_L];exact getL_set hi
  rw[this,Int.toNat_natCast]
 have hcl:((H.putL i q).getC t).color=(H.getC t).color:=by
  rw[gC];split
  ·rename_i e;rw[e]
  ·rfl
 unfold Heap.shadeH
 rw[hcl]
 have hm:Marking (H.putL i q)↔Marking H:=Iff.rfl
 by_cases c:Marking H∧(H.getC t).color=0
 ·rw[if_pos c,if_pos ⟨hm.2 c.1,c.2⟩,gC]
  have gD:(H.gray1 t (H.getC t)).getC i=if i=t then(H.getC t).col 1 else H.getC i:=by
   have:(H.gray1 t (H.getC t)).getC i=if(i:Int).toNat=t then(H.getC t).col 1 else H.getC i:=by rw[getC_L,getC_L];exact getL_set ht
   rw[this,Int.toNat_natCast]
  unfold Heap.putL
  rw[gD]
  unfold Heap.gray1
  by_cases e:t=i
  ·subst e
   rw[if_pos rfl,if_pos rfl]
   simp only[List.set_set];rfl
  ·rw[if_neg e,if_neg (fun h=>e h.symm)]
   simp only[Heap.mk.injEq,true_and,and_true]
   exact List.set_comm _ _ (fun h=>e h.symm)
 ·rw[if_neg c,if_neg (fun h=>c ⟨hm.1 h.1,h.2⟩)]
theorem shadeW_putL{H:Heap}{i:Nat}{q:Int}{w:Word}(hi:i<H.cells.length)(hf:Formed H w):(H.putL i q).shadeW w=(H.shadeW w).putL i q:=by
 unfold Heap.shadeW
 by_cases hk:w.kind=2
 ·rw[if_pos hk,if_pos hk]
  have:=hf.at hk
  exact shadeH_putL hi (by omega)
 ·rw[if_neg hk,if_neg hk]
theorem l5cell_b{a:Nat}{x:HX}{op n:Int}{ka kb kc:Nat}(h:Sound x.H)(ha:ka≤15)(ho:op=10∨op=12):FnA Tryz.prog 57 [ptr a,.agg #[.int .i64 op,.int .i64 ka,.int .i64 kb,.int .i64 kc,.int .i64 n]] (hp a x) (fun v As=>∃z:HX,v=an (doCell x.H ⟨op,ka,kb,kc,n⟩).code (doCell x.H ⟨op,ka,kb,kc,n⟩).num∧As=hp a z∧z.H=(doCell x.H ⟨op,ka,kb,kc,n⟩).heap):=by
 have hl:=x.len
 have hnc:x.hdr.nc=x.xs.length:=rfl
 have hnr:x.hdr.nr=x.regs.length:=rfl
 have h16:x.regs.length=16:=h.r1.regs
 obtain⟨w,gw⟩:∃w,x.regs[ka]?=some w:=⟨_,List.getElem?_eq_getElem (by omega)⟩
 have er:x.H.getR ka=w:=getR_at gw
 obtain⟨r1,r2⟩:=getR_ok h (r:=ka) (by omega) (by omega)
 rw[er]at r1 r2
 refine fnA_of (fun h=>fn57 (by simp) h) ?_
 unfold doCell
 dsimp only
 rw[er]
 by_cases hk:w.kind=2
 ·obtain⟨b0,b1,b2,b3⟩:=r2 hk
  obtain⟨j,hj⟩:=Int.eq_ofNat_of_zero_le b0
  obtain⟨wk,wn,wat⟩:=w
  dsimp only at hk hj b1 b2
  subst hk hj
  obtain⟨y,gy,gc⟩:=HX.at (x:=x) (i:=j) (by omega)
  have gk:=HX.gc gy
  have hpl:=h.r2.pl (List.mem_of_getElem? gc)
  rw[if_neg (fun e=>e rfl)]
  dsimp only
  rw[Int.toNat_natCast]
  rcases ho with rfl|rfl
  ·repeat' (first
    |(refine k_L ?_;first|refine a_p rfl ?_|(refine k_l ?_;refine g_l rfl ?_)|(refine k_i ?_;refine g_i rfl rfl ?_)|(refine k_ls ?_;refine g_ls rfl ?_)|(refine k_st ?_;refine g_sw rfl rfl rfl rfl (Nat.le_of_ble_eq_true rfl) ?_)|(refine k_al ?_;refine a_al ?_)|(refine k_bx ?_;refine a_bx rfl rfl ?_)|(refine k_c ?_;refine a_cq rfl (fun m hm=>l5fine_q) ?_)|(refine g_c rfl (l5cut_a (x:=x) (i:=j) (n:=kc) h (by omega) b2) (fun v As' hq=>?_);obtain⟨z,rfl,hz⟩:=hq))
    |refine a_n ?_
    |(refine k_V ?_;first|refine v_seq ?_|refine v_reg ?_|refine v_dreg ?_|refine v_bs ?_|refine v_ret ?_|refine v_skip ?_|refine v_ct rfl ?_|refine v_cf rfl ?_)
    |refine sk_zero ?_
    |refine sk_succ ?_
    |refine wk_nil ?_
    |refine wk_cons ?_)
   all_goals exact fa_r (fun _ _=>rfl) (Pm.ent pmt) ⟨z,rfl,rfl,hz⟩
  ·have zH:HX.H {x with xs:=x.xs.set j (y.s_last kc)}=x.H.putL j kc:=by
    unfold Heap.putL
    rw[gk]
    unfold HX.H
    simp only[List.map_set];rfl
   by_cases hc1:(kc:Int)=1
   ·have hkc:kc=1:=by omega
    subst hkc
    rw[if_pos hc1]
    repeat' (first
     |(refine k_L ?_;first|refine a_p rfl ?_|(refine k_l ?_;refine g_l rfl ?_)|(refine k_i ?_;refine g_i rfl rfl ?_)|(refine k_ls ?_;refine g_ls rfl ?_)|(refine k_st ?_;first|refine g_st rfl rfl rfl rfl ?_|refine g_sw rfl rfl rfl rfl (Nat.le_of_ble_eq_true rfl) ?_)|(refine k_al ?_;refine a_al ?_)|(refine k_bx ?_;refine a_bx rfl rfl ?_))
     |refine a_n ?_
     |(refine k_V ?_;first|refine v_seq ?_|refine v_reg ?_|refine v_dreg ?_|refine v_bs ?_|refine v_skip ?_|refine v_ct rfl ?_|refine v_cf rfl ?_)
     |refine sk_zero ?_
     |refine sk_succ ?_
     |refine wk_nil ?_
     |refine wk_cons ?_)
    refine LA.ent (Pm.ent (fin ({x with xs:=x.xs.set j (y.s_last (1:Nat))}:HX) (e1:=by simp[HX.hdr]))) ?_
    refine g_c rfl (l3shade_a (x:={x with xs:=x.xs.set j (y.s_last (1:Nat))}) (w:=⟨2,wn,j⟩) (fun hk=>by rw[zH];have:=r1.at hk;show _∧_<((x.H.cells.set j _).length:Int);rw[List.length_set];exact this) (by have:=h.r1.gray;have:=h.r1.cells;have:=h.r1.room;show x.gray.length≤_;have e:x.H.gray.length=x.gray.length:=rfl;omega)) (fun v' As' hq=>?_)
    obtain⟨u,rfl,rfl,hu,_⟩:=hq
    repeat' (first
     |(refine k_L ?_;first|(refine k_st ?_;refine g_sw rfl rfl rfl rfl (Nat.le_of_ble_eq_true rfl) ?_)|(refine k_c ?_;refine a_cq rfl (fun m hm=>l5fine_q) ?_))
     |refine a_n ?_
     |(refine k_V ?_;first|refine v_seq ?_|refine v_reg ?_|refine v_ret ?_)
     |refine sk_zero ?_
     |refine sk_succ ?_
     |refine wk_nil ?_
     |refine wk_cons ?_)
    all_goals exact fa_r (fun _ _=>rfl) (Pm.ent pmt) ⟨u,rfl,rfl,by rw[hu,zH,shadeW_putL (by omega) r1];rfl⟩
   ·rw[if_neg hc1]
    repeat' (first
     |(refine k_L ?_;first|refine a_p rfl ?_|(refine k_l ?_;refine g_l rfl ?_)|(refine k_i ?_;refine g_i rfl rfl ?_)|(refine k_ls ?_;refine g_ls rfl ?_)|(refine k_st ?_;first|refine g_st rfl rfl rfl rfl ?_|refine g_sw rfl rfl rfl rfl (Nat.le_of_ble_eq_true rfl) ?_)|(refine k_al ?_;refine a_al ?_)|(refine k_bx ?_;refine a_bx rfl rfl ?_)|(refine k_c ?_;refine a_cq rfl (fun m hm=>l5fine_q) ?_))
     |refine a_n ?_
     |(refine k_V ?_;first|refine v_seq ?_|refine v_reg ?_|refine v_dreg ?_|refine v_bs ?_|refine v_ret ?_|refine v_skip ?_|refine v_ct rfl ?_|refine v_cf rfl ?_|(refine v_cd rfl (fun hb=>?_) (fun hb=>?_)<;>try(exfalso;omega)))
     |refine sk_zero ?_
     |refine sk_succ ?_
     |refine wk_nil ?_
     |refine wk_cons ?_)
    all_goals exact fa_r (fun _ _=>rfl) (Pm.ent (fin ({x with xs:=x.xs.set j (y.s_last kc)}:HX) (e1:=by simp[HX.hdr]))) ⟨_,rfl,rfl,zH⟩
 ·rw[if_pos hk]
  rcases ho with rfl|rfl
  ·repeat' (first
    |(refine k_L ?_;first|refine a_p rfl ?_|(refine k_l ?_;refine g_l rfl ?_)|(refine k_i ?_;refine g_i rfl rfl ?_)|(refine k_ls ?_;refine g_ls rfl ?_)|(refine k_st ?_;refine g_sw rfl rfl rfl rfl (Nat.le_of_ble_eq_true rfl) ?_)|(refine k_al ?_;refine a_al ?_)|(refine k_bx ?_;refine a_bx rfl rfl ?_)|(refine k_c ?_;refine a_cq rfl (fun m hm=>l5bad_q) ?_))
    |refine a_n ?_
    |(refine k_V ?_;first|refine v_seq ?_|refine v_reg ?_|refine v_dreg ?_|refine v_ret ?_|(refine v_cn rfl (fun hb=>?_) (fun hb=>?_)<;>try(exfalso;omega)))
    |refine s_r ?_
    |refine sk_zero ?_
    |refine sk_succ ?_
    |refine wk_nil ?_
    |refine wk_cons ?_)
   all_goals exact fa_r (fun _ _=>rfl) (Pm.ent pmt) ⟨x,rfl,rfl,rfl⟩
  ·repeat' (first
    |(refine k_L ?_;first|refine a_p rfl ?_|(refine k_l ?_;refine g_l rfl ?_)|(refine k_i ?_;refine g_i rfl rfl ?_)|(refine k_ls ?_;refine g_ls rfl ?_)|(refine k_st ?_;refine g_sw rfl rfl rfl rfl (Nat.le_of_ble_eq_true rfl) ?_)|(refine k_al ?_;refine a_al ?_)|(refine k_bx ?_;refine a_bx rfl rfl ?_)|(refine k_c ?_;refine a_cq rfl (fun m hm=>l5bad_q) ?_))
    |refine a_n ?_
    |(refine k_V ?_;first|refine v_seq ?_|refine v_reg ?_|refine v_dreg ?_|refine v_ret ?_|(refine v_cn rfl (fun hb=>?_) (fun hb=>?_)<;>try(exfalso;omega)))
    |refine s_r ?_
    |refine sk_zero ?_
    |refine sk_succ ?_
    |refine wk_nil ?_
    |refine wk_cons ?_)
   all_goals exact fa_r (fun _ _=>rfl) (Pm.ent pmt) ⟨x,rfl,rfl,rfl⟩
end Go.Proofs.YtpleoapljeffiaaGreatDoor.E
namespace Go.Proofs.YtpleoapljeffiaaGreatDoor.E
open Go
noncomputable def e55:Env:=⟨Tryz.prog,[3,4,6,73],105,[(5,0),(10,7),(11,7),(13,9)]⟩
noncomputable def c55:C:=
 .seq (.reg [zO 3 1,zj 4 0 0]) (.seq (.reg [z4 8 3 3,z5 9 1 8,qG 10 1 9,z3 5 10]) (.seq (.seq (.reg [z3 11 0,z6 12 11,z4 13 2 12,z5 14 1 13,zC 15 14 1000000000,z3 16 15,zV 17 16 0,zV 18 16 5,qg 19 16 90 17 18,qU 20 16 19,zW 21 16 20]) (.cond (.tmp 21) (.seq (.reg [zT 22 54 4,z7 2 4 22]) .ret) .skip)) (.seq (.reg [z3 23 0,z6 24 23,z4 25 2 24,z5 26 1 25,zD 27 26 1,z6 28 23,z4 29 2 28,z7 1 29
 27]) (.seq (.hreg [3,4,73] [z4 30 2 3,z5 31 1 30,z3 32 0,z6 33 32,z4 34 2 33,z5 35 1 34,z4 36 3 3,z5 37 1 36] (.alt (qh 38 6 48 0 0 0 0 0 0 37 37) (.alt (qN 39 0 0 0 0 0 0 0 0 0 0 1 1 1 1 31 4 1 35 7 1 38) (.alt (zc 6 0 0 0 0 0 0 0 0 0) (.alf (z7 8 6 39) (.done) (.none)) (.none)) (.alt (zc 6 0 0 0 0 0 0 0 0 0) (.alt (qN 39 0 0 0 0 0 0 0 0 0 0 1 1 1 1 31 4 1 35 7 1 38) (.alf (z7 8 6 39) (.done)
 (.none)) (.none)) (.none))) (.alt (zc 6 0 0 0 0 0 0 0 0 0) (.alt (qh 38 6 48 0 0 0 0 0 0 37 37) (.alt (qN 39 0 0 0 0 0 0 0 0 0 0 1 1 1 1 31 4 1 35 7 1 38) (.alf (z7 8 6 39) (.done) (.none)) (.none)) (.none)) (.none)))) (.seq (.reg [z3 40 0,zI 41 91 40,z3 7 41]) (.seq (.seq (.reg [z3 42 0,zI 43 92 42,z3 44 43,zV 45 44 0,q4 46 44 45,zU 47 44 5 46,zR 48 44 1 47,zy 49 44 48 3,zV 50 44 49,zL 51 50 7,
 zL 52 50 0,zY 53 50 52,zM 54 50 6 53,zJ 55 50 1 54,⟨some 56,some (50,true),.bin .geq (.tmp 51) (.tmp 55)⟩,qD 57 44 50 56,zW 58 44 57]) (.cond (.tmp 58) (.reg [z4 59 5 6,ze 1 59 2]) .skip)) (.seq (.seq (.reg [z3 60 7,z3 61 0,z6 62 61,z4 63 4 62,z5 64 1 63,zE 65 64,zt 66 60 65]) (.cond (.tmp 66) (.dreg 7 [z3 67 0,z3 68 0,z6 69 68,z4 70 4 69,z5 71 1 70,z9 72 8 6,⟨some 73,none,.bslice true 1 8
 [.int .i64 0,.int .i64 0,.int .i64 0,.int .i64 0,.int .i64 0,.int .i64 0,.int .i64 0,.slice none 0 0] [(0,8,.tmp 72)]⟩,⟨some 74,none,.app 8 80 [.int .i64 0,.int .i64 0,.int .i64 0,.int .i64 0,.int .i64 0,.int .i64 0,.int .i64 0,.slice none 0 0] (.tmp 71) (.tmp 73)⟩,z6 75 67,z4 76 4 75,z7 1 76 74]) (.dreg 7 [z3 77 0,z6 78 77,z4 79 4 78,z5 80 1 79,z3 81 7,z9 82 8 6,z8 83 8 80 81,z7 8 83 82])))
 (.seq (.reg [z3 84 0,z6 85 84,z4 86 1 85,z5 87 1 86,z3 88 5,zp 89 87 88,z6 90 84,z4 91 1 90,z7 1 91 89]) (.seq (.dreg 9 [z3 92 0,z6 93 92,z4 94 3 93,z5 95 1 94,z4 96 1 3,z5 97 1 96,z3 98 7,zo 99 0 0 0 0 1 2 2 1 98,z8 100 3 95 97,z7 3 100 99]) (.seq (.reg [z3 101 0,z3 102 5,zG 103 93 101 102]) (.seq (.reg [zT 104 58 0,z7 2 4 104]) .ret)))))))))))
theorem t55:Tryz.f55.body.bind (trC e55)=some c55:=by kernel_rfl
theorem r55:Tryz.f55.results.toList.mapM (trR Tryz.prog)=some [.cell 4 false 2]:=by kernel_rfl
theorem fn55{args:List Value}{M:Mem}{post:Value→Mem→Prop}(hl:args.length≤105)(h:VC e55 c55 (fnQ [.cell 4 false 2] post) (initS args 105) M):Fn Tryz.prog 55 args M post:=
 Fn.of' (E:=e55) Tryz.func55 t55 rfl r55 mixed hl h
noncomputable def e96:Env:=⟨Tryz.prog,[3,4,66],84,[(1,17),(6,9),(10,0),(11,9)]⟩
noncomputable def c96:C:=
 .seq (.reg [zO 3 1,zj 4 0 0]) (.seq (.dreg 17 [z3 8 0,z6 9 8,z4 10 4 9,z5 11 1 10,z3 12 0,z6 13 12,z4 14 3 13,z5 15 1 14,z4 16 1 3,z5 17 1 16,z8 18 3 15 17,z4 19 2 18,z5 20 1 19,z8 21 8 11 20,z4 22 7 21,z5 23 1 22,zE 24 23,z3 5 24]) (.seq (.seq (.reg [z3 25 5,z4 26 3 3,z5 27 1 26,zp 28 25 27,q8 29 28 200]) (.cond (.tmp 29) (.seq (.reg [zT 30 54 5,z7 2 4 30]) .ret) .skip)) (.seq (.seq (.reg [
 z3 31 0,z4 32 3 3,z5 33 1 32,zG 34 90 31 33,zQ 35 34]) (.cond (.tmp 35) (.seq (.reg [zT 36 54 4,z7 2 4 36]) .ret) .skip)) (.seq (.dreg 9 [z3 37 0,z6 38 37,z4 39 3 38,z5 40 1 39,z4 41 1 3,z5 42 1 41,z8 43 3 40 42,z4 44 2 43,z5 45 1 44,z3 6 45]) (.seq (.seq (.reg [zA 7 0]) (.block 0 (.loop (.seq (.seq (.reg [z3 46 7,z4 47 3 3,z5 48 1 47,zK 49 46 48]) (.cond (.tmp 49) .skip (.exit 0))) (.seq
 (.block 1 (.hreg [3,4] [z3 52 0,z6 53 52,z4 54 4 53,z5 55 1 54,z3 56 6,z3 57 0,z6 58 57,z4 59 4 58,z5 60 1 59,z3 61 6,z8 62 8 60 61,z4 63 7 62,z5 64 1 63,⟨some 65,none,.build [.int .i64 0,.int .i64 0,.int .i64 0,.int .i64 0,.int .i64 0,.int .i64 0] []⟩] (.alt (qo 66 1 6 0 0 0 0 0 0 0 6 65) (.alt (qp 67 6 48 0 0 0 0 0 0 64 66) (.alf (z8 68 8 55 56) (.alf (z4 69 7 68) (.alf (z7 1 69 67) (.done)
 (.none)) (.none)) (.none)) (.none)) (.none)))) (.reg [z3 50 7,zD 51 50 1,z3 7 51])))))) (.seq (.dreg 9 [z3 70 0,z6 71 70,z4 72 1 71,z5 73 1 72,z4 74 3 3,z5 75 1 74,zp 76 73 75,z6 77 70,z4 78 1 77,z7 1 78 76]) (.seq (.reg [z3 79 0,z4 80 3 3,z5 81 1 80,zG 82 93 79 81]) (.seq (.reg [zT 83 58 0,z7 2 4 83]) .ret))))))))
theorem t96:Tryz.f96.body.bind (trC e96)=some c96:=by kernel_rfl
theorem r96:Tryz.f96.results.toList.mapM (trR Tryz.prog)=some [.cell 4 false 2]:=by kernel_rfl
theorem fn96{args:List Value}{M:Mem}{post:Value→Mem→Prop}(hl:args.length≤84)(h:VC e96 c96 (fnQ [.cell 4 false 2] post) (initS args 84) M):Fn Tryz.prog 96 args M post:=
 Fn.of' (E:=e96) Tryz.func96 t96 rfl r96 mixed hl h
end Go.Proofs.YtpleoapljeffiaaGreatDoor.E
namespace Go.Proofs.YtpleoapljeffiaaGreatDoor.E
open Go
open Classical
theorem cl_split{cd:D}{ys:List CS}{i:Nat}{y:CS}{R:List Asr}(hi:ys[i]?=some y):Ent (clA cd ys::R) (slA 8 csv cd ys::slA 6 pv y.d y.c.pairs::prA (ys.eraseIdx i)::R):=cl_open.trans (Ent.cons (ent_of fun m hm=>by
 obtain⟨a,b,d,rfl,h1,h2⟩:=hm
 have:=pr_out hi h1
 obtain⟨c,e,d2,rfl,k1,k2⟩:=star2.1 this
 refine⟨c,e.un b,?_,un_assoc _ _ _,k1,e,b,(disj_un'.1 d).2,rfl,k2,h2⟩
 exact disj_un.2 ⟨d2,(disj_un'.1 d).1⟩))
theorem cl_join{cd:D}{ys:List CS}{i:Nat}{y':CS}{R:List Asr}(hi:i<ys.length):Ent (slA 8 csv cd (ys.set i y')::slA 6 pv y'.d y'.c.pairs::prA (ys.eraseIdx i)::R) (clA cd (ys.set i y')::R):=(Ent.cons (ent_of fun m hm=>by
 obtain⟨c,r,d,rfl,k1,e,b,d2,rfl,k2,h2⟩:=hm
 obtain⟨d3,d4⟩:=disj_un.1 d
 refine⟨c.un e,b,disj_un'.2 ⟨d4,d2⟩,(un_assoc _ _ _).symm,pr_in hi (star2.2 ⟨c,e,d3,rfl,k1,k2⟩),h2⟩)).trans cl_close
def Heap.addP(K:Heap)(i n:Nat):Heap:={K with cells:=K.cells.set i {K.getC i with pairs:=(K.getC i).pairs++List.replicate n Pair.no}}
theorem addP_zero{K:Heap}{i:Nat}(hi:i<K.cells.length):K.addP i 0=K:=by
 unfold Heap.addP
 have e1:K.cells.set i {K.getC i with pairs:=(K.getC i).pairs++List.replicate 0 Pair.no}=K.cells:=by
  rw[List.replicate_zero,List.append_nil]
  refine List.ext_getElem? fun j=>?_
  rw[List.getElem?_set]
  split
  ·rename_i e
   subst e
   rw[get_at hi]
  ·rfl
 rw[e1]
theorem addP_get{K:Heap}{i n:Nat}(hi:i<K.cells.length):(K.addP i n).getC i={K.getC i with pairs:=(K.getC i).pairs++List.replicate n Pair.no}:=by
 have:(K.addP i n).getC i=if(i:Int).toNat=i then{K.getC i with pairs:=(K.getC i).pairs++List.replicate n Pair.no}else K.getC i:=by rw[getC_L,getC_L];exact getL_set hi
 rw[this,if_pos (by omega)]
theorem addP_len{K:Heap}{i n:Nat}:(K.addP i n).cells.length=K.cells.length:=by unfold Heap.addP;simp
theorem growC_add{K:Heap}{i n:Nat}:K.growC i n={K.addP i n with used:=K.used+n}:=rfl
theorem addP_succ{K:Heap}{i n:Nat}(hi:i<K.cells.length):{K.addP i n with cells:=(K.addP i n).cells.set i {(K.addP i n).getC i with pairs:=((K.addP i n).getC i).pairs++[Pair.no]}}=K.addP i (n+1):=by
 rw[addP_get hi]
 unfold Heap.addP
 simp only[List.set_set,List.append_assoc,Heap.mk.injEq,true_and,and_true]
 rw[List.replicate_succ']
theorem l5grow_a{a:Nat}{x:HX}{op n:Int}{ka kb kc:Nat}(h:Sound x.H)(ha:ka≤15)(hc:kc≤200)(hk0:(x.H.getR ka).kind=2):FnA Tryz.prog 96 [ptr a,.agg #[.int .i64 op,.int .i64 ka,.int .i64 kb,.int .i64 kc,.int .i64 n]] (hp a x) (fun v As=>∃z:HX,v=an (doGrow x.H ⟨op,ka,kb,kc,n⟩).code (doGrow x.H ⟨op,ka,kb,kc,n⟩).num∧As=hp a z∧z.H=(doGrow x.H ⟨op,ka,kb,kc,n⟩).heap):=by
 have hl:=x.len
 have hnc:x.hdr.nc=x.xs.length:=rfl
 have hnr:x.hdr.nr=x.regs.length:=rfl
 have h16:x.regs.length=16:=h.r1.regs
 obtain⟨w,gw⟩:∃w,x.regs[ka]?=some w:=⟨_,List.getElem?_eq_getElem (by omega)⟩
 have er:x.H.getR ka=w:=getR_at gw
 obtain⟨r1,r2⟩:=getR_ok h (r:=ka) (by omega) (by omega)
 have hk:=hk0
 rw[er]at r1 r2 hk
 obtain⟨b0,b1,b2,b3⟩:=r2 hk
 obtain⟨j,hj⟩:=Int.eq_ofNat_of_zero_le b0
 obtain⟨y,gy,gc⟩:=HX.at (x:=x) (i:=j) (by omega)
 have gk:=HX.gc gy
 have hpl:=h.r2.pl (List.mem_of_getElem? gc)
 refine fnA_of (fun h=>fn96 (by simp) h) ?_
 obtain⟨f1,f2,f3,f4,f5,f6,f7⟩:=fits_ok h kc
 obtain⟨q1,q2⟩:=reg_len h f1 f2 f3 (r:=ka) (by omega) (by omega) hk0
 unfold doGrow
 dsimp only
 obtain⟨wk,wn,wat⟩:=w
 dsimp only at hk hj b1 b2
 subst hk hj
 rw[er]at q2⊢
 dsimp only at q2⊢
 rw[gk]at q2⊢
 by_cases c1:(y.c.pairs.length:Int)+kc>200
 ·rw[if_pos c1]
  repeat' (first
   |(refine k_L ?_;first|(refine k_ad ?_;refine g_ad rfl rfl ?_)|refine a_p rfl ?_|(refine k_l ?_;first|refine a_l rfl (by exact rd_t (rd_h (rd_sl (fun _=>rfl) gw rfl))) ?_|refine g_l rfl ?_)|(refine k_i ?_;refine g_i rfl rfl ?_)|(refine k_st ?_;refine g_sw rfl rfl rfl rfl (Nat.le_of_ble_eq_true rfl) ?_)|(refine k_al ?_;refine a_al ?_)|(refine k_bx ?_;refine a_bx rfl rfl ?_)|(refine k_c ?_;refine a_cq rfl (fun m hm=>l5bad_q) ?_))
   |refine a_n ?_
   |(refine k_V ?_;first|refine v_seq ?_|refine v_reg ?_|refine v_dreg ?_|refine v_ret ?_|(refine v_cd rfl (fun hb=>?_) (fun hb=>?_)<;>try(exfalso;omega)))
   |refine s_r ?_
   |refine sk_zero ?_
   |refine sk_succ ?_
   |refine wk_nil ?_
   |refine wk_cons ?_)
  all_goals exact fa_r (fun _ _=>rfl) (Pm.ent pmt) ⟨x,rfl,rfl,rfl⟩
 ·rw[if_neg c1]
  generalize hF:x.H.fitsH kc=F at*
  have key:∀z:HX,z.H=F→∃(wm:Int) (i:Nat) (u:CS),z.regs[ka]?=some ⟨2,wm,i⟩∧z.xs[i]?=some u∧F.getC i=u.c∧(F.getR ka).at_=i∧i<F.cells.length∧z.xs.length=F.cells.length∧z.regs.length=16:=by
   intro z hz
   have g16:z.regs.length=16:=by have:=f1.r1.regs;rw[←hz]at this;exact this
   obtain⟨v,gv⟩:∃w,z.regs[ka]?=some w:=⟨_,List.getElem?_eq_getElem (by omega)⟩
   have ev:F.getR ka=v:=by rw[←hz];exact getR_at gv
   obtain⟨_,s2⟩:=getR_ok f1 (r:=ka) (by omega) (by omega)
   rw[ev]at q1 s2⊢
   obtain⟨t0,t1,t2,t3⟩:=s2 q1
   obtain⟨i,hi⟩:=Int.eq_ofNat_of_zero_le t0
   obtain⟨vk,vn,vat⟩:=v
   dsimp only at q1 hi t1
   subst q1 hi
   have zl:=z.len
   rw[hz]at zl
   obtain⟨u,gu,gc'⟩:=HX.at (x:=z) (i:=i) (by omega)
   exact⟨vn,i,u,gv,gu,by rw[←hz];exact HX.gc gu,rfl,by omega,by omega,g16⟩
  by_cases c2:F.used+kc≤F.room
  ·rw[if_pos c2]
   repeat' (first
    |(refine k_L ?_;first|(refine k_ad ?_;refine g_ad rfl rfl ?_)|refine a_p rfl ?_|(refine k_l ?_;first|refine a_l rfl (by exact rd_t (rd_h (rd_sl (fun _=>rfl) gw rfl))) ?_|refine a_l rfl (by exact rd_t (rd_h (rd_sl (fun _=>rfl) gv rfl))) ?_|refine g_l rfl ?_)|(refine k_i ?_;refine g_i rfl rfl ?_)|(refine k_st ?_;refine g_sw rfl rfl rfl rfl (Nat.le_of_ble_eq_true rfl) ?_)|(refine k_al ?_;refine a_al ?_)|(refine k_bx ?_;refine a_bx rfl rfl ?_)|(refine k_c ?_;refine a_cq rfl (fun m hm=>l5bad_q) ?_)|(refine g_c rfl (l5room_a (x:=x) (u:=(kc:Int)) h (by omega)) (fun v As' hq=>?_);obtain⟨z,rfl,rfl,hz⟩:=hq;obtain⟨wm,i,u,gv,gu,gF,ei,hi,zl,z16⟩:=key z (by rw[hz,hF]);have znc:z.hdr.nc=z.xs.length:=rfl;have znr:z.hdr.nr=z.regs.length:=rfl))
    |refine a_n ?_
    |(refine k_V ?_;first|refine v_seq ?_|refine v_reg ?_|refine v_dreg ?_|refine v_ret ?_|refine v_skip ?_|(refine v_cd rfl (fun hb=>?_) (fun hb=>?_)<;>try(exfalso;omega))|(refine v_cnd rfl (fun hb=>?_) (fun hb=>?_)<;>try(exfalso;omega)))
    |refine s_n ?_
    |refine s_r ?_
    |refine sk_zero ?_
    |refine sk_succ ?_
    |refine wk_nil ?_
    |refine wk_cons ?_)
   ·exfalso;rw[hF]at hb;omega
   rw[hF]at hz
   have eL:u.c.pairs.length=y.c.pairs.length:=by rw[←gF,←ei];exact q2
   have i0:(F.getR ka).at_.toNat=i:=by omega
   rw[i0]
   refine v_blk ?_
   refine v_loop (fun q:Nat×HX=>[(0,.v (ptr a)),(3,.box [.int .i64 op,.int .i64 ka,.int .i64 kb,.int .i64 kc,.int .i64 n]),(4,.box [.int .i64 0,.int .i64 0]),(6,.v (.int .i64 i)),(7,.v (.int .i64 q.1))]) (fun q=>hp a q.2) (fun k q=>k=kc-q.1∧q.1≤kc∧q.2.H=F.addP i q.1) ⟨_,(0,z),⟨rfl,rfl,rfl,rfl,rfl,trivial⟩,Pm.ent pmt,rfl,Nat.zero_le _,by rw[hz];exact(addP_zero hi).symm⟩ ?_
   rintro k ⟨m,s⟩ ⟨rfl,hm,hs⟩
   simp only at hm hs
   dsimp only
   have sl:s.xs.length=F.cells.length:=by rw[←s.len,hs,addP_len]
   have snc:s.hdr.nc=s.xs.length:=rfl
   obtain⟨v,gs,gsc⟩:=HX.at (x:=s) (i:=i) (by omega)
   have gsk:=HX.gc gs
   rw[hs,addP_get hi]at gsk
   have evl:v.c.pairs.length=y.c.pairs.length+m:=by rw[←gsk];simp[gF,eL]
   by_cases hmk:m<kc
   ·repeat' (first
     |(refine k_L ?_;refine a_p rfl ?_)
     |refine a_n ?_
     |(refine k_V ?_;first|refine v_seq ?_|refine v_reg ?_|refine v_skip ?_|(refine v_cd rfl (fun hb=>?_) (fun hb=>?_)<;>try(exfalso;omega))))
    refine v_blk ?_
    refine VA.ent (Bs:=[slA 6 pv v.d v.c.pairs,prA (s.xs.eraseIdx i),slA 3 wv s.rd s.regs,slA 1 iv s.gd s.gray,hdA a s.hdr,slA 8 csv s.cd s.xs]) ?_ ?_
    ·exact((Pm.ent (As1:=[clA s.cd s.xs,slA 3 wv s.rd s.regs,slA 1 iv s.gd s.gray,hdA a s.hdr]) pmt).trans (cl_split gs)).trans (Pm.ent pmt)
    refine v_hreg (Gs:=[slA 6 pv v.d v.c.pairs,prA (s.xs.eraseIdx i),slA 3 wv s.rd s.regs,slA 1 iv s.gd s.gray]) [hdA a s.hdr,slA 8 csv s.cd s.xs] ⟨fun m hm=>hm⟩ ?_
    repeat' (first
     |(refine k_L ?_;first|refine a_p rfl ?_|(refine k_l ?_;first|refine a_l rfl (by exact rd_t (rd_h (rd_sl (fun _=>rfl) gs rfl))) ?_|refine g_l rfl ?_)|(refine k_i ?_;refine g_i rfl rfl ?_)|(refine k_bl ?_;refine a_bl rfl ?_))
     |refine a_n ?_
     |refine t_a ?_ t_n
     |refine kl_1 rfl ?_
     |refine kl_0 ?_)
    refine g_ap (xs:=v.c.pairs) (e:=v.d) Pair.no pv_len rfl rfl rfl (by omega) (hb:=by omega) (fun e'=>?_)
    repeat' (first
     |(refine k_L ?_;first|refine a_p rfl ?_|(refine k_i ?_;refine g_i rfl rfl ?_))
     |refine a_n ?_
     |refine t_f ?_ t_n
     |refine kl_1 rfl ?_
     |refine kl_0 ?_)
    refine a_st rfl rfl rfl rfl (up_t (up_t (up_t (up_t (up_t (up_h (up_sl (j:=7) (e':=(⟨{v.c with pairs:=v.c.pairs++[Pair.no]},e'.a,e'.cap⟩:CS)) csv_len gs (by simp[Value.cells]) rfl))))))) ?_
    repeat' (first
     |(refine k_L ?_;first|(refine k_ad ?_;refine g_ad rfl rfl ?_)|refine a_p rfl ?_)
     |refine a_n ?_
     |(refine k_V ?_;refine v_reg ?_)
     |refine s_n ?_
     |refine t_d ?_)
    refine⟨_,(m+1,{s with xs:=s.xs.set i (⟨{v.c with pairs:=v.c.pairs++[Pair.no]},e'.a,e'.cap⟩:CS)}),?_,⟨rfl,rfl,rfl,rfl,rfl,trivial⟩,?_,rfl,hmk,?_⟩
    ·show kc-(m+1)<kc-m
     omega
    ·refine((Pm.ent (As1:=[slA 8 csv s.cd (s.xs.set i (⟨{v.c with pairs:=v.c.pairs++[Pair.no]},e'.a,e'.cap⟩:CS)),slA 6 pv e' (v.c.pairs++[Pair.no]),prA (s.xs.eraseIdx i),slA 3 wv s.rd s.regs,slA 1 iv s.gd s.gray,hdA a s.hdr]) pmt).trans (cl_join (y':=(⟨{v.c with pairs:=v.c.pairs++[Pair.no]},e'.a,e'.cap⟩:CS)) (by omega))).trans (Pm.ent (fin ({s with xs:=s.xs.set i (⟨{v.c with pairs:=v.c.pairs++[Pair.no]},e'.a,e'.cap⟩:CS)}:HX) (e1:=by simp[HX.hdr])))
    ·show HX.H {s with xs:=s.xs.set i (⟨{v.c with pairs:=v.c.pairs++[Pair.no]},e'.a,e'.cap⟩:CS)}=F.addP i (m+1)
     have:=addP_succ (K:=F) (i:=i) (n:=m) hi
     rw[←this,←hs,HX.gc gs]
     unfold HX.H
     simp only[List.map_set]
   ·have em:m=kc:=by omega
    subst em
    have hsu:s.H.used=F.used:=by rw[hs];rfl
    have su:=hsu
    have e1:s.hdr.used=s.H.used:=rfl
    have ub:=f1.r3
    have un:=unitsN_nn F.cells
    have rb:=f1.r1.room
    unfold R3 at ub
    repeat' (first
     |(refine k_L ?_;first|(refine k_ad ?_;refine g_ad rfl rfl ?_)|refine a_p rfl ?_|(refine k_l ?_;refine g_l rfl ?_)|(refine k_st ?_;refine g_st rfl rfl rfl rfl ?_))
     |refine a_n ?_
     |(refine k_V ?_;first|refine v_seq ?_|refine v_reg ?_|refine v_dreg ?_|refine v_exit ?_|(refine v_cd rfl (fun hb=>?_) (fun hb=>?_)<;>try(exfalso;omega))))
    have zS:Sound (HX.H {s with used:=s.used+m}):=by
     have:HX.H {s with used:=s.used+m}=F.growC i m:=by
      rw[growC_add,←hs,←hsu];rfl
     rw[this]
     refine grow_sound f1 hi ?_ ?_ c2
     ·obtain⟨_,s2⟩:=getR_ok f1 (r:=ka) (by omega) (by omega)
      rw[ei]at s2
      exact(s2 q1).2.2.1
     ·rw[gF,eL];omega
    refine LA.ent (Pm.ent (fin ({s with used:=s.used+m}:HX))) ?_
    refine g_c rfl (l5pace_a (x:={s with used:=s.used+m}) (u:=(m:Int)) zS (by omega)) (fun v' As' hq=>?_)
    obtain⟨r,rfl,hr⟩:=hq
    repeat' (first
     |(refine k_L ?_;first|(refine k_st ?_;refine g_sw rfl rfl rfl rfl (Nat.le_of_ble_eq_true rfl) ?_)|(refine k_c ?_;refine a_cq rfl (fun m hm=>l5fine_q) ?_))
     |refine a_n ?_
     |(refine k_V ?_;first|refine v_seq ?_|refine v_reg ?_|refine v_ret ?_)
     |refine sk_zero ?_
     |refine sk_succ ?_
     |refine wk_nil ?_
     |refine wk_cons ?_)
    exact fa_r (fun _ _=>rfl) (Pm.ent pmt) ⟨r,rfl,rfl,by rw[hr];congr 1;rw[Int.toNat_natCast,growC_add,←hs,←hsu];rfl⟩
  ·rw[if_neg c2]
   repeat' (first
    |(refine k_L ?_;first|(refine k_ad ?_;refine g_ad rfl rfl ?_)|refine a_p rfl ?_|(refine k_l ?_;first|refine a_l rfl (by exact rd_t (rd_h (rd_sl (fun _=>rfl) gw rfl))) ?_|refine g_l rfl ?_)|(refine k_i ?_;refine g_i rfl rfl ?_)|(refine k_st ?_;refine g_sw rfl rfl rfl rfl (Nat.le_of_ble_eq_true rfl) ?_)|(refine k_al ?_;refine a_al ?_)|(refine k_bx ?_;refine a_bx rfl rfl ?_)|(refine k_c ?_;refine a_cq rfl (fun m hm=>l5bad_q) ?_)|(refine g_c rfl (l5room_a (x:=x) (u:=(kc:Int)) h (by omega)) (fun v As' hq=>?_);obtain⟨z,rfl,rfl,hz⟩:=hq))
    |refine a_n ?_
    |(refine k_V ?_;first|refine v_seq ?_|refine v_reg ?_|refine v_dreg ?_|refine v_ret ?_|refine v_skip ?_|(refine v_cd rfl (fun hb=>?_) (fun hb=>?_)<;>try(exfalso;omega))|(refine v_cnd rfl (fun hb=>?_) (fun hb=>?_)<;>try(exfalso;omega)))
    |refine s_r ?_
    |refine sk_zero ?_
    |refine sk_succ ?_
    |refine wk_nil ?_
    |refine wk_cons ?_)
   all_goals first
    |(exfalso;rw[hF]at hb;omega)
    |exact fa_r (fun _ _=>rfl) (Pm.ent pmt) ⟨z,rfl,rfl,by rw[hz,hF]⟩
def CS.s_take(y:CS)(n:Nat):CS:={y with c:={y.c with pairs:=y.c.pairs.take n}}
theorem ent_take{α:Type}{f:α→List Value}{size:Nat}(hs:∀x,(f x).length=size){d:D}{xs:List α}{k:Nat}(hk:k≤xs.length){R:List Asr}:Ent (slA size f d xs::R) (slA size f d (xs.take k)::R):=ent_h fun m h=>sl_take hs h hk
theorem a_kn{P:Program}{l:List I}{post:St→List Asr→Prop}{S:St}{As:List Asr}{p:Prop}(hk:Kn As p)(h:p→LA P l post S As):LA P l post S As:=⟨fun m hm=>(h (hk.out m hm)).out m hm⟩
theorem cutE_a{a:Nat}{x:HX}{i n:Nat}(h:Sound x.H)(hi:i<x.xs.length)(hs:(x.H.getC i).state=1):FnA Tryz.prog 129 [eV a,.int .i64 i,.int .i64 n] (hp a x) (fun v As=>∃z:HX,As=hp a z∧z.H=x.H.cutH i n):=by
 have hl:=x.len
 have hi':i<x.H.cells.length:=by omega
 have hub:=used_b h
 have hpl:=getC_pl h.r2 i
 have hsb:=h.r1.sub
 have hnc:x.hdr.nc=x.xs.length:=rfl
 have hu0:x.hdr.used=x.used:=rfl
 have hs0:x.hdr.sub=x.sub:=rfl
 have hs1:x.H.sub=x.sub:=rfl
 obtain⟨y,gy,gc⟩:=HX.at hi
 have gk:=HX.gc gy
 refine fnA_of (fun h=>fn129 (by simp) h) ?_
 unfold Heap.cutH
 rw[gk]at hpl⊢
 by_cases c:n<y.c.pairs.length
 ·rw[if_pos c]
  have key:∀(z:HX),z={x with xs:=x.xs.set i (y.s_take n),used:=x.used-(y.c.pairs.length-n)}→z.H.walkedI=x.H.walkedI∧z.xs.length=x.xs.length∧z.xs[i]?=some (y.s_take n)∧z.hdr.sub=x.sub∧z.hdr.nc=x.xs.length:=fun z hz=>by
   subst hz
   refine⟨?_,by simp,by simp[hi],rfl,by simp[HX.hdr]⟩
   unfold Heap.walkedI
   have:(HX.H {x with xs:=x.xs.set i (y.s_take n),used:=x.used-(y.c.pairs.length-n)}).cells.length=x.H.cells.length:=by simp[HX.H]
   rw[this];rfl
  have cutE:∀(z:HX) (s:Int),z={x with xs:=x.xs.set i (y.s_take n),used:=x.used-(y.c.pairs.length-n),sub:=s}→s=(if x.H.walkedI=i then min x.H.sub n else x.H.sub)→z.H=x.H.cutN i n:=fun z s hz e=>by
   subst hz
   unfold Heap.cutN Heap.putC
   rw[gk,←e]
   unfold HX.H
   simp only[List.map_set];rfl
  repeat' (first
   |(refine k_L ?_;first|(refine k_su ?_;refine g_su rfl rfl ?_)|refine a_p rfl ?_|(refine k_l ?_;refine g_l rfl ?_)|(refine k_i ?_;refine g_i rfl rfl ?_)|(refine k_st ?_;refine g_st rfl rfl rfl rfl ?_)|(refine k_bx ?_;refine a_bx rfl rfl ?_))
   |refine a_n ?_
   |(refine k_V ?_;first|refine v_seq ?_|refine v_reg ?_|refine v_dreg ?_|(refine v_cd rfl (fun hb=>?_) (fun hb=>?_)<;>try(exfalso;omega))))
  refine LA.ent (Bs:=[slA 8 csv x.cd x.xs,slA 6 pv y.d y.c.pairs,prA (x.xs.eraseIdx i),hdA a (x.hdr.s_used (x.used-(y.c.pairs.length-n))),slA 3 wv x.rd x.regs,slA 1 iv x.gd x.gray]) ?_ ?_
  ·exact(Pm.ent (As1:=[clA x.cd x.xs,hdA a (x.hdr.s_used (x.used-(y.c.pairs.length-n))),slA 3 wv x.rd x.regs,slA 1 iv x.gd x.gray]) pmt).trans ((cl_spl gy).trans (Pm.ent pmt))
  refine a_kn (kn_t (kn_h cp_sl)) fun hcap=>?_
  repeat' (first
   |(refine k_L ?_;first|refine a_p rfl ?_|(refine g_tk (e:=y.d) rfl rfl ?_))
   |refine a_n ?_)
  have htk:(y.s_take n).c.pairs.length=n:=by simp[CS.s_take];omega
  refine a_st (v:=.slice (y.s_take n).d.a (y.s_take n).c.pairs.length (y.s_take n).d.cap) rfl (by rw[htk];rfl) rfl rfl (up_h (up_sl (j:=7) (e':=y.s_take n) csv_len gy (Nat.le_of_ble_eq_true rfl) rfl)) ?_
  repeat' (first
   |(refine k_L ?_;refine a_p rfl ?_)
   |refine a_n ?_
   |(refine k_V ?_;first|refine v_seq ?_|refine v_reg ?_))
  obtain⟨k1,k2,k3,k4,k5⟩:=key _ rfl
  refine LA.ent (Bs:=hp a ({x with xs:=x.xs.set i (y.s_take n),used:=x.used-(y.c.pairs.length-n)}:HX)) ?_ ?_
  ·exact(((Pm.ent (As1:=[slA 6 pv y.d y.c.pairs,slA 8 csv x.cd (x.xs.set i (y.s_take n)),prA (x.xs.eraseIdx i),hdA a (x.hdr.s_used (x.used-(y.c.pairs.length-n))),slA 3 wv x.rd x.regs,slA 1 iv x.gd x.gray]) pmt).trans (ent_take pv_len (k:=n) (by omega))).trans (Pm.ent (As1:=[slA 8 csv x.cd (x.xs.set i (y.s_take n)),slA 6 pv (y.s_take n).d (y.s_take n).c.pairs,prA (x.xs.eraseIdx i),hdA a (x.hdr.s_used (x.used-(y.c.pairs.length-n))),slA 3 wv x.rd x.regs,slA 1 iv x.gd x.gray]) pmt)).trans ((cl_joi (y':=y.s_take n) (by omega)).trans (Pm.ent (fin ({x with xs:=x.xs.set i (y.s_take n),used:=x.used-(y.c.pairs.length-n)}:HX) (e1:=by simp[HX.hdr,Hdr.s_room,Hdr.s_used,Hdr.s_born,Hdr.s_phase,Hdr.s_hand,Hdr.s_sub,Hdr.s_per,Hdr.s_start,Hdr.s_rounds,Hdr.s_forced,Hdr.s_rd,Hdr.s_cd,Hdr.s_gd]))))
  have ct:(y.s_take n).c.pairs.length=n:=by simp[CS.s_take];omega
  repeat' (first
   |(refine k_L ?_;first|refine a_p rfl ?_|(refine k_l ?_;refine g_l rfl ?_)|(refine k_st ?_;refine g_st rfl rfl rfl rfl ?_)|(refine k_c ?_;refine a_cq rfl (fun m hm=>qt_e (walked_q (x:=({x with xs:=x.xs.set i (y.s_take n),used:=x.used-(y.c.pairs.length-n)}:HX)) (sep_has hm pmt)) (by rw[k1])) ?_))
   |refine a_n ?_
   |(refine k_V ?_;first|refine v_dreg ?_|refine v_skip ?_|(refine v_cd rfl (fun hb=>?_) (fun hb=>?_)<;>try(exfalso;omega))))
  ·refine fa_n (fun _ _=>rfl) (Pm.ent (fin ({x with xs:=x.xs.set i (y.s_take n),used:=x.used-(y.c.pairs.length-n),sub:=if((y.s_take n).c.pairs.length:Int)<x.sub then((y.s_take n).c.pairs.length:Int)else x.sub}:HX))) ⟨_,rfl,cutE _ _ rfl ?_⟩
   rw[if_pos hb.symm,ct,hs1]
   split<;>omega
  ·refine fa_n (fun _ _=>rfl) (Pm.ent pmt) ⟨_,rfl,cutE _ x.sub rfl ?_⟩
   rw[if_neg (fun e=>hb e.symm)];exact hs1.symm
 ·rw[if_neg c]
  repeat' (first
   |(refine k_L ?_;first|refine a_p rfl ?_|(refine k_l ?_;refine g_l rfl ?_)|(refine k_i ?_;refine g_i rfl rfl ?_)|(refine k_st ?_;refine g_st rfl rfl rfl rfl ?_)|(refine k_bx ?_;refine a_bx rfl rfl ?_)|(refine k_c ?_;refine a_cq rfl (fun m hm=>walked_q (x:=x) (sep_has hm pmt)) ?_))
   |refine a_n ?_
   |(refine k_V ?_;first|refine v_seq ?_|refine v_reg ?_|refine v_dreg ?_|refine v_skip ?_|(refine v_cd rfl (fun hb=>?_) (fun hb=>?_)<;>try(exfalso;omega))))
  ·have:=walked_sub h hi' hb.symm
   rw[gk,hs1]at this
   exact fa_n (fun _ _=>rfl) (Pm.ent (fin x (e1:=by simp[HX.hdr,Hdr.s_room,Hdr.s_used,Hdr.s_born,Hdr.s_phase,Hdr.s_hand,Hdr.s_sub,Hdr.s_per,Hdr.s_start,Hdr.s_rounds,Hdr.s_forced,Hdr.s_rd,Hdr.s_cd,Hdr.s_gd];omega))) ⟨x,rfl,rfl⟩
  ·exact fa_n (fun _ _=>rfl) (Pm.ent pmt) ⟨x,rfl,rfl⟩
theorem growE_a{a:Nat}{x:HX}{op n:Int}{ka kb kc j0:Nat}(h:Sound x.H)(ha:ka≤15)(hc:kc≤200)(hk0:(x.H.getR ka).kind=2)(hj0:(x.H.getR ka).at_=j0):FnA Tryz.prog 128 [eV a,.int .i64 j0,.agg #[.int .i64 op,.int .i64 ka,.int .i64 kb,.int .i64 kc,.int .i64 n]] (hp a x) (fun v As=>∃z:HX,v=an (doGrow x.H ⟨op,ka,kb,kc,n⟩).code (doGrow x.H ⟨op,ka,kb,kc,n⟩).num∧As=hp a z∧z.H=(doGrow x.H ⟨op,ka,kb,kc,n⟩).heap):=by
 have hl:=x.len
 have hnc:x.hdr.nc=x.xs.length:=rfl
 have hnr:x.hdr.nr=x.regs.length:=rfl
 have h16:x.regs.length=16:=h.r1.regs
 obtain⟨r1,r2⟩:=getR_ok h (r:=ka) (by omega) (by omega)
 obtain⟨b0,b1,b2,b3⟩:=r2 hk0
 rw[hj0]at b0 b1 b2 b3
 obtain⟨y,gy,gc⟩:=HX.at (x:=x) (i:=j0) (by omega)
 have gk:=HX.gc gy
 have hpl:=h.r2.pl (List.mem_of_getElem? gc)
 refine fnA_of (fun h=>fn128 (by simp) h) ?_
 obtain⟨f1,f2,f3,f4,f5,f6,f7⟩:=fits_ok h kc
 obtain⟨q1,q2⟩:=reg_len h f1 f2 f3 (r:=ka) (by omega) (by omega) hk0
 unfold doGrow
 dsimp only
 rw[hj0]at q2⊢
 rw[gk]at q2⊢
 by_cases c1:(y.c.pairs.length:Int)+kc>200
 ·rw[if_pos c1]
  repeat' (first
   |(refine k_L ?_;first|(refine k_ad ?_;refine g_ad rfl rfl ?_)|refine a_p rfl ?_|(refine k_l ?_;refine g_l rfl ?_)|(refine k_i ?_;refine g_i rfl rfl ?_)|(refine k_st ?_;refine g_sw rfl rfl rfl rfl (Nat.le_of_ble_eq_true rfl) ?_)|(refine k_al ?_;refine a_al ?_)|(refine k_bx ?_;refine a_bx rfl rfl ?_)|(refine k_c ?_;refine a_cq rfl (fun m hm=>codeE_q) ?_))
   |refine a_n ?_
   |(refine k_V ?_;first|refine v_seq ?_|refine v_reg ?_|refine v_dreg ?_|refine v_ret ?_|(refine v_cd rfl (fun hb=>?_) (fun hb=>?_)<;>try(exfalso;omega)))
   |refine s_r ?_
   |refine sk_zero ?_
   |refine sk_succ ?_
   |refine wk_nil ?_
   |refine wk_cons ?_)
  all_goals exact fa_r (fun _ _=>rfl) (Pm.ent pmt) ⟨x,rfl,rfl,rfl⟩
 ·rw[if_neg c1]
  generalize hF:x.H.fitsH kc=F at*
  by_cases c2:F.used+kc≤F.room
  ·rw[if_pos c2]
   have key:∀z:HX,z.H=F→∃(wm:Int) (i:Nat) (u:CS),z.regs[ka]?=some ⟨2,wm,i⟩∧z.xs[i]?=some u∧F.getC i=u.c∧(F.getR ka).at_=i∧i<F.cells.length∧z.xs.length=F.cells.length∧z.regs.length=16∧z.hdr.used=F.used:=by
    intro z hz
    have g16:z.regs.length=16:=by have:=f1.r1.regs;rw[←hz]at this;exact this
    obtain⟨v,gv⟩:∃w,z.regs[ka]?=some w:=⟨_,List.getElem?_eq_getElem (by omega)⟩
    have ev:F.getR ka=v:=by rw[←hz];exact getR_at gv
    obtain⟨_,s2⟩:=getR_ok f1 (r:=ka) (by omega) (by omega)
    rw[ev]at q1 s2⊢
    obtain⟨t0,t1,t2,t3⟩:=s2 q1
    obtain⟨i,hi⟩:=Int.eq_ofNat_of_zero_le t0
    obtain⟨vk,vn,vat⟩:=v
    dsimp only at q1 hi t1
    subst q1 hi
    have zl:=z.len
    rw[hz]at zl
    obtain⟨u,gu,gc'⟩:=HX.at (x:=z) (i:=i) (by omega)
    exact⟨vn,i,u,gv,gu,by rw[←hz];exact HX.gc gu,rfl,by omega,by omega,g16,congrArg Heap.used hz⟩
   repeat' (first
    |(refine k_L ?_;first|(refine k_ad ?_;refine g_ad rfl rfl ?_)|refine a_p rfl ?_|(refine k_l ?_;first|refine a_l rfl (by exact rd_t (rd_h (rd_sl (fun _=>rfl) gv rfl))) ?_|refine g_l rfl ?_)|(refine k_i ?_;refine g_i rfl rfl ?_)|(refine k_st ?_;refine g_sw rfl rfl rfl rfl (Nat.le_of_ble_eq_true rfl) ?_)|(refine k_al ?_;refine a_al ?_)|(refine k_bx ?_;refine a_bx rfl rfl ?_)|(refine k_c ?_;refine a_cq rfl (fun m hm=>codeE_q) ?_)|(refine g_c rfl (fits_a (x:=x) (u:=(kc:Int)) h (by omega)) (fun v As' hq=>?_);obtain⟨z,rfl,rfl,hz⟩:=hq;obtain⟨wm,i,u,gv,gu,gF,ei,hi,zl,z16,zu⟩:=key z (by rw[hz,hF]);have znc:z.hdr.nc=z.xs.length:=rfl;have znr:z.hdr.nr=z.regs.length:=rfl))
    |refine a_n ?_
    |(refine k_V ?_;first|refine v_seq ?_|refine v_reg ?_|refine v_dreg ?_|refine v_ret ?_|refine v_skip ?_|(refine v_cd rfl (fun hb=>?_) (fun hb=>?_)<;>try(exfalso;omega))|(refine v_cnd rfl (fun hb=>?_) (fun hb=>?_)<;>try(exfalso;omega)))
    |refine s_r ?_
    |refine sk_zero ?_
    |refine sk_succ ?_
    |refine wk_nil ?_
    |refine wk_cons ?_)
   ·exfalso;rw[hF]at hb<;>omega
   rw[hF]at hz
   have eL:u.c.pairs.length=y.c.pairs.length:=by rw[←gF,←ei];exact q2
   have i0:(F.getR ka).at_.toNat=i:=by omega
   have zb:=used_b (z:=z) (by rw[hz];exact f1)
   rw[i0]
   refine LA.ent (Bs:=[slA 6 pv u.d u.c.pairs,slA 8 csv z.cd z.xs,prA (z.xs.eraseIdx i),hdA a z.hdr,slA 3 wv z.rd z.regs,slA 1 iv z.gd z.gray]) ?_ ?_
   ·exact(Pm.ent (As1:=[clA z.cd z.xs,hdA a z.hdr,slA 3 wv z.rd z.regs,slA 1 iv z.gd z.gray]) pmt).trans ((cl_spl gu).trans (Pm.ent pmt))
   refine a_az (xs:=u.c.pairs) (e:=u.d) (k:=(kc:Int)) Pair.no pk_h pv_len (by omega) rfl rfl rfl (by omega) rfl (by omega) (fun e'=>?_)
   generalize hy:(⟨{u.c with pairs:=u.c.pairs++List.replicate kc Pair.no},e'.a,e'.cap⟩:CS)=un
   have ed:un.d=e'∧un.c.pairs=u.c.pairs++List.replicate kc Pair.no:=by rw[←hy];exact⟨rfl,rfl⟩
   repeat' (first
    |(refine k_L ?_;refine a_p rfl ?_)
    |refine a_n ?_)
   refine a_st rfl rfl rfl rfl (up_t (up_h (up_sl (j:=7) (e':=un) csv_len gu (Nat.le_of_ble_eq_true rfl) (by rw[←hy];rfl)))) ?_
   have zH:HX.H {z with xs:=z.xs.set i un,used:=z.used+kc}=F.growC i kc:=by
    unfold Heap.growC Heap.putC
    rw[gF,←hz,←hy]
    unfold HX.H
    simp only[List.map_set]
   repeat' (first
    |(refine k_L ?_;first|(refine k_ad ?_;refine g_ad rfl rfl ?_)|refine a_p rfl ?_|(refine k_l ?_;refine g_l rfl ?_)|(refine k_st ?_;refine g_st rfl rfl rfl rfl ?_))
    |refine a_n ?_
    |(refine k_V ?_;first|refine v_seq ?_|refine v_reg ?_|refine v_dreg ?_))
   refine LA.ent (Bs:=hp a ({z with xs:=z.xs.set i un,used:=z.used+kc}:HX)) ?_ ?_
   ·refine((Pm.ent (As1:=[slA 8 csv z.cd (z.xs.set i un),slA 6 pv un.d un.c.pairs,prA (z.xs.eraseIdx i),hdA a _,slA 3 wv z.rd z.regs,slA 1 iv z.gd z.gray]) (by rw[ed.1,ed.2];exact pmt)).trans (cl_joi (y':=un) (by omega))).trans (Pm.ent (fin ({z with xs:=z.xs.set i un,used:=z.used+kc}:HX) (e1:=by simp[HX.hdr,Hdr.s_room,Hdr.s_used,Hdr.s_born,Hdr.s_phase,Hdr.s_hand,Hdr.s_sub,Hdr.s_per,Hdr.s_start,Hdr.s_rounds,Hdr.s_forced,Hdr.s_rd,Hdr.s_cd,Hdr.s_gd])))
   have zS:Sound (HX.H {z with xs:=z.xs.set i un,used:=z.used+kc}):=by
    rw[zH]
    refine grow_sound f1 hi ?_ ?_ c2
    ·obtain⟨_,s2⟩:=getR_ok f1 (r:=ka) (by omega) (by omega)
     rw[ei]at s2
     exact(s2 q1).2.2.1
    ·rw[gF,eL];omega
   refine g_c rfl (pace_a (x:=({z with xs:=z.xs.set i un,used:=z.used+kc}:HX)) (u:=(kc:Int)) zS (by omega)) (fun v' As' hq=>?_)
   obtain⟨r,rfl,hr⟩:=hq
   repeat' (first
    |(refine k_L ?_;first|(refine k_st ?_;refine g_sw rfl rfl rfl rfl (Nat.le_of_ble_eq_true rfl) ?_)|(refine k_c ?_;refine a_cq rfl (fun m hm=>numE_q) ?_))
    |refine a_n ?_
    |(refine k_V ?_;first|refine v_seq ?_|refine v_reg ?_|refine v_ret ?_)
    |refine sk_zero ?_
    |refine sk_succ ?_
    |refine wk_nil ?_
    |refine wk_cons ?_)
   exact fa_r (fun _ _=>rfl) (Pm.ent pmt) ⟨r,rfl,rfl,by rw[hr];exact congrArg (fun K=>Heap.paceH K (kc:Int)) zH⟩
  ·rw[if_neg c2]
   repeat' (first
    |(refine k_L ?_;first|(refine k_ad ?_;refine g_ad rfl rfl ?_)|refine a_p rfl ?_|(refine k_l ?_;refine g_l rfl ?_)|(refine k_i ?_;refine g_i rfl rfl ?_)|(refine k_st ?_;refine g_sw rfl rfl rfl rfl (Nat.le_of_ble_eq_true rfl) ?_)|(refine k_al ?_;refine a_al ?_)|(refine k_bx ?_;refine a_bx rfl rfl ?_)|(refine k_c ?_;refine a_cq rfl (fun m hm=>codeE_q) ?_)|(refine g_c rfl (fits_a (x:=x) (u:=(kc:Int)) h (by omega)) (fun v As' hq=>?_);obtain⟨z,rfl,rfl,hz⟩:=hq))
    |refine a_n ?_
    |(refine k_V ?_;first|refine v_seq ?_|refine v_reg ?_|refine v_dreg ?_|refine v_ret ?_|refine v_skip ?_|(refine v_cd rfl (fun hb=>?_) (fun hb=>?_)<;>try(exfalso;omega))|(refine v_cnd rfl (fun hb=>?_) (fun hb=>?_)<;>try(exfalso;omega)))
    |refine s_r ?_
    |refine sk_zero ?_
    |refine sk_succ ?_
    |refine wk_nil ?_
    |refine wk_cons ?_)
   all_goals first
    |(exfalso;rw[hF]at hb;omega)
    |exact fa_r (fun _ _=>rfl) (Pm.ent pmt) ⟨z,rfl,rfl,by rw[hz,hF]⟩
    |trace_state
theorem doE_rd{a:Nat}{x:HX}{op n:Int}{ka kb kc:Nat}(h:Sound x.H)(ha:ka≤15)(hb:kb≤15)(ho:op=5∨op=6):FnA Tryz.prog 84 [eV a,.agg #[.int .i64 op,.int .i64 ka,.int .i64 kb,.int .i64 kc,.int .i64 n]] (hp a x) (fun v As=>∃z:HX,v=an (doPair x.H ⟨op,ka,kb,kc,n⟩).code (doPair x.H ⟨op,ka,kb,kc,n⟩).num∧As=hp a z∧z.H=(doPair x.H ⟨op,ka,kb,kc,n⟩).heap):=by
 have hl:=x.len
 have hnc:x.hdr.nc=x.xs.length:=rfl
 have hnr:x.hdr.nr=x.regs.length:=rfl
 have h16:x.regs.length=16:=h.r1.regs
 obtain⟨wa_,ga⟩:∃w,x.regs[ka]?=some w:=⟨_,List.getElem?_eq_getElem (by omega)⟩
 obtain⟨w,gw⟩:∃w,x.regs[kb]?=some w:=⟨_,List.getElem?_eq_getElem (by omega)⟩
 have er:x.H.getR kb=w:=getR_at gw
 obtain⟨r1,r2⟩:=getR_ok h (r:=kb) (by omega) (by omega)
 rw[er]at r1 r2
 refine fnA_of (fun h=>fn84 (by simp) h) ?_
 unfold doPair
 dsimp only
 rw[if_pos ho,er]
 by_cases hk:w.kind=2
 ·obtain⟨b0,b1,b2,b3⟩:=r2 hk
  obtain⟨j,hj⟩:=Int.eq_ofNat_of_zero_le b0
  have et:x.H.toI w=(j:Int):=by rw[toI_used hk b2,hj]
  have hwf:w.kind=2→0≤w.at_∧w.at_<x.H.cells.length:=fun _=>⟨b0,b1⟩
  rw[hj]at b1 b2
  obtain⟨y,gy,gc⟩:=HX.at (x:=x) (i:=j) (by omega)
  have gk:=HX.gc gy
  rw[if_neg (fun e=>e hk),hj,gk,Int.toNat_natCast]
  have hcj:x.H.cells[j]?=some y.c:=gc
  cases hpp:y.c.pairs[kc]? with
  |none=>
   have:=List.getElem?_eq_none_iff.1 hpp
   rcases ho with rfl|rfl
   ·repeat' (first
     |(refine k_L ?_;first|refine a_p rfl ?_|(refine k_l ?_;refine g_l rfl ?_)|(refine k_i ?_;refine g_i rfl rfl ?_)|(refine k_ls ?_;refine g_ls rfl ?_)|(refine k_st ?_;refine g_sw rfl rfl rfl rfl (Nat.le_of_ble_eq_true rfl) ?_)|(refine k_al ?_;refine a_al ?_)|(refine k_bx ?_;refine a_bx rfl rfl ?_)|(refine k_q ?_;refine a_q rfl (fun m hm=>qt_e (to_q (x:=x) (sep_has hm pmt) hwf) (by rw[et])) ?_)|(refine k_c ?_;refine a_cq rfl (fun m hm=>codeE_q) ?_))
     |refine a_n ?_
     |(refine k_V ?_;first|refine v_seq ?_|refine v_reg ?_|refine v_dreg ?_|refine v_bs ?_|refine v_ret ?_|refine v_skip ?_|refine v_ct rfl ?_|refine v_cf rfl ?_|(refine v_cd rfl (fun hb=>?_) (fun hb=>?_)<;>try(exfalso;omega)))
     |refine s_r ?_
     |refine b_r ?_
     |refine sk_zero ?_
     |refine sk_succ ?_
     |refine wk_nil ?_
     |refine wk_cons ?_)
    all_goals exact fa_r (fun _ _=>rfl) (Pm.ent pmt) ⟨x,rfl,rfl,rfl⟩
   ·repeat' (first
     |(refine k_L ?_;first|refine a_p rfl ?_|(refine k_l ?_;refine g_l rfl ?_)|(refine k_i ?_;refine g_i rfl rfl ?_)|(refine k_ls ?_;refine g_ls rfl ?_)|(refine k_st ?_;refine g_sw rfl rfl rfl rfl (Nat.le_of_ble_eq_true rfl) ?_)|(refine k_al ?_;refine a_al ?_)|(refine k_bx ?_;refine a_bx rfl rfl ?_)|(refine k_q ?_;refine a_q rfl (fun m hm=>qt_e (to_q (x:=x) (sep_has hm pmt) hwf) (by rw[et])) ?_)|(refine k_c ?_;refine a_cq rfl (fun m hm=>codeE_q) ?_))
     |refine a_n ?_
     |(refine k_V ?_;first|refine v_seq ?_|refine v_reg ?_|refine v_dreg ?_|refine v_bs ?_|refine v_ret ?_|refine v_skip ?_|refine v_ct rfl ?_|refine v_cf rfl ?_|(refine v_cd rfl (fun hb=>?_) (fun hb=>?_)<;>try(exfalso;omega)))
     |refine s_r ?_
     |refine b_r ?_
     |refine sk_zero ?_
     |refine sk_succ ?_
     |refine wk_nil ?_
     |refine wk_cons ?_)
    all_goals exact fa_r (fun _ _=>rfl) (Pm.ent pmt) ⟨x,rfl,rfl,rfl⟩
  |some p=>
   have:=(List.getElem?_eq_some_iff.1 hpp).1
   obtain⟨p1,p2,_⟩:=h.r4.pairs j y.c hcj kc p hpp
   have fk:p.key.kind=2→0≤p.key.at_∧p.key.at_<x.H.cells.length:=fun e=>p1.at e
   have fv:p.val.kind=2→0≤p.val.at_∧p.val.at_<x.H.cells.length:=fun e=>p2.at e
   rcases ho with rfl|rfl
   ·repeat' (first
     |(refine k_L ?_;first|refine a_p rfl ?_|(refine k_l ?_;refine g_l rfl ?_)|(refine k_i ?_;refine g_i rfl rfl ?_)|(refine k_ls ?_;refine g_ls rfl ?_)|(refine k_st ?_;first|refine g_st rfl rfl rfl rfl ?_|refine g_sw rfl rfl rfl rfl (Nat.le_of_ble_eq_true rfl) ?_)|(refine k_al ?_;refine a_al ?_)|(refine k_bx ?_;refine a_bx rfl rfl ?_)|(refine k_q ?_;first|refine a_q rfl (fun m hm=>qt_e (to_q (x:=x) (sep_has hm pmt) hwf) (by rw[et])) ?_|refine a_q rfl (fun m hm=>lead_q (x:=x.hs) (w:=p.key) (Has.ph (sep_has hm pmt)) fk) ?_)|(refine k_c ?_;refine a_cq rfl (fun m hm=>numE_q) ?_))
     |refine a_n ?_
     |(refine k_V ?_;first|refine v_seq ?_|refine v_reg ?_|refine v_dreg ?_|refine v_bs ?_|refine v_ret ?_|refine v_skip ?_|refine v_ct rfl ?_|refine v_cf rfl ?_|(refine v_cd rfl (fun hb=>?_) (fun hb=>?_)<;>try(exfalso;omega)))
     |refine sk_zero ?_
     |refine sk_succ ?_
     |refine wk_nil ?_
     |refine wk_cons ?_)
    all_goals exact fa_r (fun _ _=>rfl) (Pm.ent (fin ({x with regs:=x.regs.set ka (x.H.lead p.key)}:HX) (h1:=by simp[HX.hdr]))) ⟨_,rfl,rfl,rfl⟩
   ·repeat' (first
     |(refine k_L ?_;first|refine a_p rfl ?_|(refine k_l ?_;refine g_l rfl ?_)|(refine k_i ?_;refine g_i rfl rfl ?_)|(refine k_ls ?_;refine g_ls rfl ?_)|(refine k_st ?_;first|refine g_st rfl rfl rfl rfl ?_|refine g_sw rfl rfl rfl rfl (Nat.le_of_ble_eq_true rfl) ?_)|(refine k_al ?_;refine a_al ?_)|(refine k_bx ?_;refine a_bx rfl rfl ?_)|(refine k_q ?_;first|refine a_q rfl (fun m hm=>qt_e (to_q (x:=x) (sep_has hm pmt) hwf) (by rw[et])) ?_|refine a_q rfl (fun m hm=>lead_q (x:=x.hs) (w:=p.val) (Has.ph (sep_has hm pmt)) fv) ?_)|(refine k_c ?_;refine a_cq rfl (fun m hm=>numE_q) ?_))
     |refine a_n ?_
     |(refine k_V ?_;first|refine v_seq ?_|refine v_reg ?_|refine v_dreg ?_|refine v_bs ?_|refine v_ret ?_|refine v_skip ?_|refine v_ct rfl ?_|refine v_cf rfl ?_|(refine v_cd rfl (fun hb=>?_) (fun hb=>?_)<;>try(exfalso;omega)))
     |refine sk_zero ?_
     |refine sk_succ ?_
     |refine wk_nil ?_
     |refine wk_cons ?_)
    all_goals exact fa_r (fun _ _=>rfl) (Pm.ent (fin ({x with regs:=x.regs.set ka (x.H.lead p.val)}:HX) (h1:=by simp[HX.hdr]))) ⟨_,rfl,rfl,rfl⟩
 ·have et:=toI_no (H:=x.H) hk
  rw[if_pos hk]
  rcases ho with rfl|rfl
  ·repeat' (first
    |(refine k_L ?_;first|refine a_p rfl ?_|(refine k_l ?_;refine g_l rfl ?_)|(refine k_i ?_;refine g_i rfl rfl ?_)|(refine k_ls ?_;refine g_ls rfl ?_)|(refine k_st ?_;refine g_sw rfl rfl rfl rfl (Nat.le_of_ble_eq_true rfl) ?_)|(refine k_al ?_;refine a_al ?_)|(refine k_bx ?_;refine a_bx rfl rfl ?_)|(refine k_q ?_;refine a_q rfl (fun m hm=>qt_e (to_q (x:=x) (sep_has hm pmt) (fun e=>absurd e hk)) (by rw[et])) ?_)|(refine k_c ?_;refine a_cq rfl (fun m hm=>codeE_q) ?_))
    |refine a_n ?_
    |(refine k_V ?_;first|refine v_seq ?_|refine v_reg ?_|refine v_dreg ?_|refine v_bs ?_|refine v_ret ?_|refine v_skip ?_|refine v_ct rfl ?_)
    |refine s_r ?_
    |refine sk_zero ?_
    |refine sk_succ ?_
    |refine wk_nil ?_
    |refine wk_cons ?_)
   all_goals exact fa_r (fun _ _=>rfl) (Pm.ent pmt) ⟨x,rfl,rfl,rfl⟩
  ·repeat' (first
    |(refine k_L ?_;first|refine a_p rfl ?_|(refine k_l ?_;refine g_l rfl ?_)|(refine k_i ?_;refine g_i rfl rfl ?_)|(refine k_ls ?_;refine g_ls rfl ?_)|(refine k_st ?_;refine g_sw rfl rfl rfl rfl (Nat.le_of_ble_eq_true rfl) ?_)|(refine k_al ?_;refine a_al ?_)|(refine k_bx ?_;refine a_bx rfl rfl ?_)|(refine k_q ?_;refine a_q rfl (fun m hm=>qt_e (to_q (x:=x) (sep_has hm pmt) (fun e=>absurd e hk)) (by rw[et])) ?_)|(refine k_c ?_;refine a_cq rfl (fun m hm=>codeE_q) ?_))
    |refine a_n ?_
    |(refine k_V ?_;first|refine v_seq ?_|refine v_reg ?_|refine v_dreg ?_|refine v_bs ?_|refine v_ret ?_|refine v_ct rfl ?_|refine v_cf rfl ?_)
    |refine s_r ?_
    |refine sk_zero ?_
    |refine sk_succ ?_
    |refine wk_nil ?_
    |refine wk_cons ?_)
   all_goals exact fa_r (fun _ _=>rfl) (Pm.ent pmt) ⟨x,rfl,rfl,rfl⟩
theorem doE_wr{a:Nat}{x:HX}{op n:Int}{ka kb kc:Nat}(h:Sound x.H)(ha:ka≤15)(hb:kb≤15)(ho:op=7∨op=8):FnA Tryz.prog 84 [eV a,.agg #[.int .i64 op,.int .i64 ka,.int .i64 kb,.int .i64 kc,.int .i64 n]] (hp a x) (fun v As=>∃z:HX,v=an (doPair x.H ⟨op,ka,kb,kc,n⟩).code (doPair x.H ⟨op,ka,kb,kc,n⟩).num∧As=hp a z∧z.H=(doPair x.H ⟨op,ka,kb,kc,n⟩).heap):=by
 have hl:=x.len
 have hnc:x.hdr.nc=x.xs.length:=rfl
 have hnr:x.hdr.nr=x.regs.length:=rfl
 have h16:x.regs.length=16:=h.r1.regs
 obtain⟨v,gv⟩:∃w,x.regs[kb]?=some w:=⟨_,List.getElem?_eq_getElem (by omega)⟩
 obtain⟨w,gw⟩:∃w,x.regs[ka]?=some w:=⟨_,List.getElem?_eq_getElem (by omega)⟩
 have er:x.H.getR ka=w:=getR_at gw
 obtain⟨r1,r2⟩:=getR_ok h (r:=ka) (by omega) (by omega)
 rw[er]at r1 r2
 refine fnA_of (fun h=>fn84 (by simp) h) ?_
 unfold doPair
 dsimp only
 rw[if_neg (show ¬(op=5∨op=6) by omega),er]
 by_cases hk:w.kind=2
 ·obtain⟨b0,b1,b2,b3⟩:=r2 hk
  obtain⟨j,hj⟩:=Int.eq_ofNat_of_zero_le b0
  have et:x.H.toI w=(j:Int):=by rw[toI_used hk b2,hj]
  have hwf:w.kind=2→0≤w.at_∧w.at_<x.H.cells.length:=fun _=>⟨b0,b1⟩
  rw[hj]at b1 b2
  obtain⟨y,gy,gc⟩:=HX.at (x:=x) (i:=j) (by omega)
  have gk:=HX.gc gy
  rw[if_neg (fun e=>e hk),hj,gk,Int.toNat_natCast,Int.toNat_natCast]
  have hcj:x.H.cells[j]?=some y.c:=gc
  cases hpp:y.c.pairs[kc]? with
  |none=>
   have:=List.getElem?_eq_none_iff.1 hpp
   rcases ho with rfl|rfl
   ·repeat' (first
     |(refine k_L ?_;first|refine a_p rfl ?_|(refine k_l ?_;refine g_l rfl ?_)|(refine k_i ?_;refine g_i rfl rfl ?_)|(refine k_ls ?_;refine g_ls rfl ?_)|(refine k_st ?_;refine g_sw rfl rfl rfl rfl (Nat.le_of_ble_eq_true rfl) ?_)|(refine k_al ?_;refine a_al ?_)|(refine k_bx ?_;refine a_bx rfl rfl ?_)|(refine k_q ?_;refine a_q rfl (fun m hm=>qt_e (to_q (x:=x) (sep_has hm pmt) hwf) (by rw[et])) ?_)|(refine k_c ?_;refine a_cq rfl (fun m hm=>codeE_q) ?_))
     |refine a_n ?_
     |(refine k_V ?_;first|refine v_seq ?_|refine v_reg ?_|refine v_dreg ?_|refine v_bs ?_|refine v_ret ?_|refine v_skip ?_|refine v_ct rfl ?_|refine v_cf rfl ?_|(refine v_cd rfl (fun hb=>?_) (fun hb=>?_)<;>try(exfalso;omega)))
     |refine s_r ?_
     |refine b_r ?_
     |refine sk_zero ?_
     |refine sk_succ ?_
     |refine wk_nil ?_
     |refine wk_cons ?_)
    all_goals exact fa_r (fun _ _=>rfl) (Pm.ent pmt) ⟨x,rfl,rfl,rfl⟩
   ·repeat' (first
     |(refine k_L ?_;first|refine a_p rfl ?_|(refine k_l ?_;refine g_l rfl ?_)|(refine k_i ?_;refine g_i rfl rfl ?_)|(refine k_ls ?_;refine g_ls rfl ?_)|(refine k_st ?_;refine g_sw rfl rfl rfl rfl (Nat.le_of_ble_eq_true rfl) ?_)|(refine k_al ?_;refine a_al ?_)|(refine k_bx ?_;refine a_bx rfl rfl ?_)|(refine k_q ?_;refine a_q rfl (fun m hm=>qt_e (to_q (x:=x) (sep_has hm pmt) hwf) (by rw[et])) ?_)|(refine k_c ?_;refine a_cq rfl (fun m hm=>codeE_q) ?_))
     |refine a_n ?_
     |(refine k_V ?_;first|refine v_seq ?_|refine v_reg ?_|refine v_dreg ?_|refine v_bs ?_|refine v_ret ?_|refine v_skip ?_|refine v_ct rfl ?_|refine v_cf rfl ?_|(refine v_cd rfl (fun hb=>?_) (fun hb=>?_)<;>try(exfalso;omega)))
     |refine s_r ?_
     |refine b_r ?_
     |refine sk_zero ?_
     |refine sk_succ ?_
     |refine wk_nil ?_
     |refine wk_cons ?_)
    all_goals exact fa_r (fun _ _=>rfl) (Pm.ent pmt) ⟨x,rfl,rfl,rfl⟩
  |some p=>
   have:=(List.getElem?_eq_some_iff.1 hpp).1
   have ev:x.H.getR kb=v:=getR_at gv
   obtain⟨v1,v2⟩:=getR_ok h (r:=kb) (by omega) (by omega)
   rw[ev]at v1 v2
   have hgr:x.gray.length≤1000000:=by have:=h.r1.gray;have:=h.r1.cells;have:=h.r1.room;have e:x.H.gray.length=x.gray.length:=rfl;omega
   have wrt:∀q:Pair,HX.H {x with xs:=x.xs.set j (y.s_pair kc q)}=x.H.putP j kc q:=fun q=>by
    unfold Heap.putP
    rw[gk]
    unfold HX.H
    simp only[List.map_set];rfl
   have wat:∀q:Pair,v.kind=2→0≤v.at_∧v.at_<(x.H.putP j kc q).cells.length:=fun q hk=>by have:=v1.at hk;show _∧_<((x.H.cells.set j _).length:Int);rw[List.length_set];exact this
   have wst:∀q:Pair,v.kind=2→((x.H.putP j kc q).getC v.at_).state=1:=fun q hk=>by
    have hst:=(v2 hk).2.2.1
    have hji:j<x.H.cells.length:=by omega
    have g:(x.H.putP j kc q).getC v.at_=if v.at_.toNat=j then{x.H.getC j with pairs:=(x.H.getC j).pairs.set kc q}else x.H.getC v.at_:=by rw[getC_L,getC_L];exact getL_set hji
    rw[g];split
    ·exact b2
    ·exact hst
   rcases ho with rfl|rfl
   ·have zH:=wrt ⟨v,p.val⟩
    have hw1:=wat ⟨v,p.val⟩
    have hw2:=wst ⟨v,p.val⟩
    repeat' (first
     |(refine k_L ?_;first|refine a_p rfl ?_|(refine k_l ?_;refine g_l rfl ?_)|(refine k_i ?_;refine g_i rfl rfl ?_)|(refine k_ls ?_;refine g_ls rfl ?_)|(refine k_st ?_;refine g_st rfl rfl rfl rfl ?_)|(refine k_al ?_;refine a_al ?_)|(refine k_bx ?_;refine a_bx rfl rfl ?_)|(refine k_q ?_;refine a_q rfl (fun m hm=>qt_e (to_q (x:=x) (sep_has hm pmt) hwf) (by rw[et])) ?_))
     |refine a_n ?_
     |(refine k_V ?_;first|refine v_seq ?_|refine v_reg ?_|refine v_dreg ?_|refine v_bs ?_|refine v_skip ?_|refine v_ct rfl ?_|refine v_cf rfl ?_|(refine v_cd rfl (fun hb=>?_) (fun hb=>?_)<;>try(exfalso;omega))))
    have gy':(x.xs.set j (y.s_pair kc ⟨v,p.val⟩))[j]?=some (y.s_pair kc ⟨v,p.val⟩):=by rw[List.getElem?_set,if_pos rfl,if_pos (by omega)]
    have hpp':(y.s_pair kc ⟨v,p.val⟩).c.pairs[kc]?=some ⟨v,p.val⟩:=by show(y.c.pairs.set kc _)[kc]?=_;rw[List.getElem?_set,if_pos rfl,if_pos (by omega)]
    refine a_ls rfl (rs_t (rs_t (rs_h (r_key (y:=y.s_pair kc ⟨v,p.val⟩) (p:=⟨v,p.val⟩) gy' hpp')))) ?_
    refine LA.ent (Pm.ent (fin ({x with xs:=x.xs.set j (y.s_pair kc ⟨v,p.val⟩)}:HX) (e1:=by simp[HX.hdr]))) ?_
    refine g_c rfl (shadeWord_a (x:={x with xs:=x.xs.set j (y.s_pair kc ⟨v,p.val⟩)}) (w:=v) (by rw[zH];exact hw1) (by rw[zH];exact hw2) hgr) (fun v' As' hq=>?_)
    obtain⟨u,rfl,rfl,hu,_⟩:=hq
    repeat' (first
     |(refine k_L ?_;first|(refine k_st ?_;refine g_sw rfl rfl rfl rfl (Nat.le_of_ble_eq_true rfl) ?_)|(refine k_c ?_;refine a_cq rfl (fun m hm=>numE_q) ?_))
     |refine a_n ?_
     |(refine k_V ?_;first|refine v_seq ?_|refine v_reg ?_|refine v_ret ?_)
     |refine sk_zero ?_
     |refine sk_succ ?_
     |refine wk_nil ?_
     |refine wk_cons ?_)
    all_goals exact fa_r (fun _ _=>rfl) (Pm.ent pmt) ⟨u,rfl,rfl,by rw[hu,zH,shadeW_put (by omega) v1,ev];rfl⟩
   ·have zH:=wrt ⟨p.key,v⟩
    have hw1:=wat ⟨p.key,v⟩
    have hw2:=wst ⟨p.key,v⟩
    repeat' (first
     |(refine k_L ?_;first|refine a_p rfl ?_|(refine k_l ?_;refine g_l rfl ?_)|(refine k_i ?_;refine g_i rfl rfl ?_)|(refine k_ls ?_;refine g_ls rfl ?_)|(refine k_st ?_;refine g_st rfl rfl rfl rfl ?_)|(refine k_al ?_;refine a_al ?_)|(refine k_bx ?_;refine a_bx rfl rfl ?_)|(refine k_q ?_;refine a_q rfl (fun m hm=>qt_e (to_q (x:=x) (sep_has hm pmt) hwf) (by rw[et])) ?_))
     |refine a_n ?_
     |(refine k_V ?_;first|refine v_seq ?_|refine v_reg ?_|refine v_dreg ?_|refine v_bs ?_|refine v_skip ?_|refine v_ct rfl ?_|refine v_cf rfl ?_|(refine v_cd rfl (fun hb=>?_) (fun hb=>?_)<;>try(exfalso;omega))))
    have gy':(x.xs.set j (y.s_pair kc ⟨p.key,v⟩))[j]?=some (y.s_pair kc ⟨p.key,v⟩):=by rw[List.getElem?_set,if_pos rfl,if_pos (by omega)]
    have hpp':(y.s_pair kc ⟨p.key,v⟩).c.pairs[kc]?=some ⟨p.key,v⟩:=by show(y.c.pairs.set kc _)[kc]?=_;rw[List.getElem?_set,if_pos rfl,if_pos (by omega)]
    refine a_ls rfl (rs_t (rs_t (rs_h (r_val (y:=y.s_pair kc ⟨p.key,v⟩) (p:=⟨p.key,v⟩) gy' hpp')))) ?_
    refine LA.ent (Pm.ent (fin ({x with xs:=x.xs.set j (y.s_pair kc ⟨p.key,v⟩)}:HX) (e1:=by simp[HX.hdr]))) ?_
    refine g_c rfl (shadeWord_a (x:={x with xs:=x.xs.set j (y.s_pair kc ⟨p.key,v⟩)}) (w:=v) (by rw[zH];exact hw1) (by rw[zH];exact hw2) hgr) (fun v' As' hq=>?_)
    obtain⟨u,rfl,rfl,hu,_⟩:=hq
    repeat' (first
     |(refine k_L ?_;first|(refine k_st ?_;refine g_sw rfl rfl rfl rfl (Nat.le_of_ble_eq_true rfl) ?_)|(refine k_c ?_;refine a_cq rfl (fun m hm=>numE_q) ?_))
     |refine a_n ?_
     |(refine k_V ?_;first|refine v_seq ?_|refine v_reg ?_|refine v_ret ?_)
     |refine sk_zero ?_
     |refine sk_succ ?_
     |refine wk_nil ?_
     |refine wk_cons ?_)
    all_goals exact fa_r (fun _ _=>rfl) (Pm.ent pmt) ⟨u,rfl,rfl,by rw[hu,zH,shadeW_put (by omega) v1,ev];rfl⟩
 ·have et:=toI_no (H:=x.H) hk
  rw[if_pos hk]
  rcases ho with rfl|rfl
  ·repeat' (first
    |(refine k_L ?_;first|refine a_p rfl ?_|(refine k_l ?_;refine g_l rfl ?_)|(refine k_i ?_;refine g_i rfl rfl ?_)|(refine k_ls ?_;refine g_ls rfl ?_)|(refine k_st ?_;refine g_sw rfl rfl rfl rfl (Nat.le_of_ble_eq_true rfl) ?_)|(refine k_al ?_;refine a_al ?_)|(refine k_bx ?_;refine a_bx rfl rfl ?_)|(refine k_q ?_;refine a_q rfl (fun m hm=>qt_e (to_q (x:=x) (sep_has hm pmt) (fun e=>absurd e hk)) (by rw[et])) ?_)|(refine k_c ?_;refine a_cq rfl (fun m hm=>codeE_q) ?_))
    |refine a_n ?_
    |(refine k_V ?_;first|refine v_seq ?_|refine v_reg ?_|refine v_dreg ?_|refine v_bs ?_|refine v_ret ?_|refine v_skip ?_|refine v_ct rfl ?_|refine v_cf rfl ?_)
    |refine s_r ?_
    |refine sk_zero ?_
    |refine sk_succ ?_
    |refine wk_nil ?_
    |refine wk_cons ?_)
   all_goals exact fa_r (fun _ _=>rfl) (Pm.ent pmt) ⟨x,rfl,rfl,rfl⟩
  ·repeat' (first
    |(refine k_L ?_;first|refine a_p rfl ?_|(refine k_l ?_;refine g_l rfl ?_)|(refine k_i ?_;refine g_i rfl rfl ?_)|(refine k_ls ?_;refine g_ls rfl ?_)|(refine k_st ?_;refine g_sw rfl rfl rfl rfl (Nat.le_of_ble_eq_true rfl) ?_)|(refine k_al ?_;refine a_al ?_)|(refine k_bx ?_;refine a_bx rfl rfl ?_)|(refine k_q ?_;refine a_q rfl (fun m hm=>qt_e (to_q (x:=x) (sep_has hm pmt) (fun e=>absurd e hk)) (by rw[et])) ?_)|(refine k_c ?_;refine a_cq rfl (fun m hm=>codeE_q) ?_))
    |refine a_n ?_
    |(refine k_V ?_;first|refine v_seq ?_|refine v_reg ?_|refine v_dreg ?_|refine v_bs ?_|refine v_ret ?_|refine v_skip ?_|refine v_ct rfl ?_|refine v_cf rfl ?_)
    |refine s_r ?_
    |refine sk_zero ?_
    |refine sk_succ ?_
    |refine wk_nil ?_
    |refine wk_cons ?_)
   all_goals exact fa_r (fun _ _=>rfl) (Pm.ent pmt) ⟨x,rfl,rfl,rfl⟩
end Go.Proofs.YtpleoapljeffiaaGreatDoor.E
